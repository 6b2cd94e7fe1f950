/- The row of the law FnExactLoosenGroup: for every input it returns true and leaves the input as it was; no condition. Out of its pure statement and the walk. -/
import Derived.Test.YtafohchkacclpaaRows
import Derived.Test.YtafohchkacclpaaB10
import Derived.Test.YtafohchkacclpaaPureFnExactLoosenGroup
import Derived.Test.YtafohchkacclpaaOpen
import Derived.WalkKit
import Derived.ProofKit
import Derived.OpenShut
import Derived.ShutString
import Derived.ChangeOld
import Derived.Below
import Derived.SizedLaws
namespace Go.Proofs.Ytafohchkacclpaa.fnExactLoosenGroup
open Go.ChangeShapes Go.WideShapes Go.ChangeAt Go.RowKit Go.Proofs.Ytafohchkacclpaa.Open Go.Proofs.Ytafohchkacclpaa.B Go.Proofs.YtafohchkacclpaaW.PrintWords
open Go.ChangeMaps (open_string shut_string)
set_option linter.unusedVariables false
theorem own : ownKnob Try.prog.godebug = none := by kernel_rfl
theorem laidOut : laidOutB Try.prog = true := by kernel_rfl
theorem o148 : Opens k148 (fun x : S148 => ((Lit.int .i64 x.f0).wf = true ∧ x.f1.size ≤ 140737488351232)) Try.prog 148 := by
  have f1 := opensF_one (P := Try.prog) (f := ({ name := "Line", type := 9, offset := 1, embedded := false, tag := "", pkgPath := "", byteOffset := 8 } : Field)) (o := 1) rfl (by kernel_rfl) (opens_string Try.underlying9)
  have f0 := opensF_cons (P := Try.prog) (f := ({ name := "Kind", type := 3, offset := 0, embedded := false, tag := "", pkgPath := "", byteOffset := 0 } : Field)) (o := 0) rfl (by kernel_rfl) (opens_int Try.underlying3) f1
  exact opens_struct (fs := #[({ name := "Kind", type := 3, offset := 0, embedded := false, tag := "", pkgPath := "", byteOffset := 0 } : Field), ({ name := "Line", type := 9, offset := 1, embedded := false, tag := "", pkgPath := "", byteOffset := 8 } : Field)]) (fun x : S148 => (x.f0, x.f1)) (fun a => (⟨a.1, a.2⟩ : S148)) (fun _ => rfl) Try.underlying148 (by kernel_rfl) f0
theorem o35 : Opens k35 (fun x : S35 => ((Lit.int .i64 x.f0).wf = true ∧ (Lit.int .i64 x.f1).wf = true ∧ (x.f2.length * 24 ≤ 140737488351232 ∧ ∀ y0 ∈ x.f2, ((Lit.int .i64 y0.f0).wf = true ∧ y0.f1.size ≤ 140737488351232)))) Try.prog 35 := by
  have f2 := opensF_one (P := Try.prog) (f := ({ name := "Rows", type := 33, offset := 2, embedded := false, tag := "", pkgPath := "", byteOffset := 16 } : Field)) (o := 2) rfl (by kernel_rfl) (opens_slice (B := 24) Try.underlying33 (by kernel_rfl) (by kernel_rfl) o148)
  have f1 := opensF_cons (P := Try.prog) (f := ({ name := "To", type := 3, offset := 1, embedded := false, tag := "", pkgPath := "", byteOffset := 8 } : Field)) (o := 1) rfl (by kernel_rfl) (opens_int Try.underlying3) f2
  have f0 := opensF_cons (P := Try.prog) (f := ({ name := "At", type := 3, offset := 0, embedded := false, tag := "", pkgPath := "", byteOffset := 0 } : Field)) (o := 0) rfl (by kernel_rfl) (opens_int Try.underlying3) f1
  exact opens_struct (fs := #[({ name := "At", type := 3, offset := 0, embedded := false, tag := "", pkgPath := "", byteOffset := 0 } : Field), ({ name := "To", type := 3, offset := 1, embedded := false, tag := "", pkgPath := "", byteOffset := 8 } : Field), ({ name := "Rows", type := 33, offset := 2, embedded := false, tag := "", pkgPath := "", byteOffset := 16 } : Field)]) (fun x : S35 => (x.f0, x.f1, x.f2)) (fun a => (⟨a.1, a.2.1, a.2.2⟩ : S35)) (fun _ => rfl) Try.underlying35 (by kernel_rfl) f0
set_option maxRecDepth 100000 in
theorem lifted (os : Os) (started : os.Started) (H : Type) (enc : TypeId × Value → H) :
    ReturnsInHanded {} Try.checked os 6 .any (Rows.fnExactLoosenGroupSpec.pre6 enc Try.prog Try.f6 Rows.fnExactLoosenGroupRow.domain false) (Rows.fnExactLoosenGroupSpec.post enc Try.prog Try.f6 false true false false) := by
  refine returnsInHanded_of_change_sized (C := Try.checked) own started (by kernel_rfl) Try.func6
    (ChangeSpec.witness6 (enc := enc) (C := Try.checked) false ⟨#[], #[.agg #[.int .i64 0, .int .i64 0, .slice none 0 0], .int .i64 0], []⟩ 8 (by kernel_rfl) (by kernel_rfl) (by kernel_rfl) (by kernel_rfl)) ?_
  intro W base args ds gs before hval0 hW hcnd hsz0 _
  have hsz : (DataW.weightsEach Try.prog (Try.f6.params.toList ++ Rows.fnExactLoosenGroupSpec.plain.varTypes Try.prog) (ds ++ gs)).all (· ≤ reachBytes) = true := hsz0
  have hval : ∀ (j : Nat) t v, Try.f6.params[j]? = some t → args[j]? = some v → Value.okWide Try.prog W .any base t v := hval0
  have hW' := hW
  obtain ⟨p, q, hA0, hV, rfl, hfz, hnd⟩ := hW
  have hA : DataW.TrodAll enc Try.prog W 0 (fun _ => true) true Try.f6.params.toList args.toList ds p := hA0
  rw [Try.params6] at hA hval hsz
  obtain ⟨v0, vs0, d0, ds0, p0, q0, hargs, rfl, rfl, h0, r0⟩ := trodAll_cons hA
  obtain ⟨v1, vs1, d1, ds1, p1, q1, rfl, rfl, rfl, h1, r1⟩ := trodAll_cons r0
  obtain ⟨rfl, rfl, rfl⟩ := trodAll_nil r1
  obtain rfl : args = #[v0, v1] := by cases args; simp_all
  obtain ⟨rfl, rfl⟩ := trodVars_none hV
  obtain ⟨z0, rfl, zs0⟩ := okWide_struct Try.underlying35 (hval 0 35 v0 rfl rfl)
  have k0 := h0
  have lt0 : ∀ x ∈ p0, x.block < W.heap.size := by obtain ⟨m, hm⟩ := k0; exact DataW.trod_lt m _ _ _ hm
  obtain ⟨fu0, hf0⟩ := h0
  obtain ⟨l0, hK0, g0⟩ := o35 H enc W 0 _ _ fu0 _ _ hf0 (fun n hn => of_decide_eq_true (List.all_eq_true.1 hsz n (DataW.weights_mem_each (j := 0) rfl rfl n hn)))
  obtain ⟨A0_2, c0_2, hE0, hc0_2, hr0_2⟩ := k35_open hK0
  obtain rfl : z0 = #[.int .i64 l0.f0, .int .i64 l0.f1, .slice A0_2 l0.f2.length c0_2] := by
    have z_ : z0.toList = _ := hE0
    cases z0; simp_all
  obtain ⟨a1, rfl, rfl, rfl, g1⟩ := open_int Try.underlying3 (hval 1 3 v1 rfl rfl) h1
  clear hA0 hval0 hsz0 hsz
  obtain ⟨k, hk⟩ := Pure.FnExactLoosenGroup l0 a1 g0 g1
  refine (laws_FnExactLoosenGroup.calls k l0.f0 l0.f1 _ _ l0.f2 a1 true W hr0_2 hc0_2 hk).mono fun e W' ⟨he, bel0⟩ => ?_
  subst he
  have bel : Below W.heap.size W W' := bel0
  exact ⟨_, rfl, _, _, _, [], _, [], hW', trodAll_mk1 (shut_bool Try.underlying4 _), (trodAll_cons_mk (Below.trod laidOut (by kernel_rfl) (of_decide_eq_true (by kernel_rfl)) k0 bel lt0) (trodAll_cons_mk (shut_int Try.underlying3 g1) trodAll_mk0)), rfl, bel.frame _, fun h => by cases h⟩
theorem over : Rows.fnExactLoosenGroupRow.holds Try.pinned (OpenSpec.ofChange Rows.fnExactLoosenGroupSpec) :=
  OpenClaim.holds_of_wide 6 Try.f6 rfl rfl rfl rfl rfl rfl rfl ⟨rfl, rfl, rfl, rfl, rfl⟩ rfl rfl rfl rfl rfl (by kernel_rfl) Try.func6 (by kernel_rfl)
    (of_decide_eq_true (by kernel_rfl)) (by unfold Func.isWrapper; first | (rw [if_pos (by decide +kernel)]; kernel_rfl) | (rw [if_neg (by decide +kernel)]; exact ⟨rfl, rfl⟩))
    (fun os started H enc _ => lifted os started H enc)
theorem proved : Rows.FnExactLoosenGroupSaid := over
#print axioms proved
end Go.Proofs.Ytafohchkacclpaa.fnExactLoosenGroup
namespace Go.Proofs.Ytafohchkacclpaa
/-- The row, under a short name, for the claim. -/
theorem fnExactLoosenGroup_holds : Rows.FnExactLoosenGroupSaid := fnExactLoosenGroup.proved
end Go.Proofs.Ytafohchkacclpaa
