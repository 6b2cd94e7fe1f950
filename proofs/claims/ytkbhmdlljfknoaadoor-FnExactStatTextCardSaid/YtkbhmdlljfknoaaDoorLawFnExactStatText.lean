/- The law FnExactStatText: for every input it returns true and leaves the input as it was. Out of its pure statement and the evaluator's contract. -/
import Derived.Test.YtkbhmdlljfknoaaDoorRows
import Derived.Test.YtkbhmdlljfknoaaDoorCards
import Derived.Test.YtkbhmdlljfknoaaDoorTie
import Derived.Test.YtkbhmdlljfknoaaDoorP1
import Derived.WalkKit
import Derived.ProofKit
import Derived.OpenShut
import Derived.ShutString
import Derived.ChangeOld
import Derived.Below
import Derived.SizedLaws
import Derived.Lay
import Derived.LaidOnce
import Derived.SevenTiedAt
import Derived.Stop.Joined
namespace Go.Proofs.YtkbhmdlljfknoaaDoor.fnExactStatText
open Go.ChangeShapes Go.WideShapes Go.ChangeAt Go.RowKit Go.Abs
open Go.ChangeMaps (open_string shut_string)
set_option linter.unusedVariables false
theorem own : ownKnob Tryd.prog.godebug = none := by kernel_rfl
theorem laidOut : laidOutB Tryd.prog = true := by kernel_rfl
set_option maxRecDepth 100000 in
theorem lifted (os : Os) (started : os.Started) (H : Type) (enc : TypeId × Value → H) :
    ReturnsInHanded {} Tryd.checked os 5 .any (fun w args => (Rows.fnExactStatTextSpec.pre enc Tryd.prog Tryd.f5 [] false w args ∧ laidMetH Tryd.prog Rows.fnExactStatTextRow.laid w) ∧ sizedMet enc Tryd.prog Tryd.f5 (OpenSpec.ofChange Rows.fnExactStatTextSpec) false w args) (Rows.fnExactStatTextSpec.post enc Tryd.prog Tryd.f5 false true false false) := by
  refine returnsInHanded_of_change_and (C := Tryd.checked) (X := fun w _ => laidMetH Tryd.prog Rows.fnExactStatTextRow.laid w) (fun _ _ _ hh h => h.of_heap hh) own started (by kernel_rfl) Tryd.func5
    (ChangeSpec.witness_shaped (enc := enc) (C := Tryd.checked) (os := os) (X := fun w _ => laidMetH Tryd.prog Rows.fnExactStatTextRow.laid w) false (World.laidAll Tryd.prog os Rows.fnExactStatTextRow.laid) #[.slice none 0 0] 8 (World.laidAll_os _ _ _)
      (World.shaped_of_ZipB (by kernel_rfl) (by kernel_rfl)) (by kernel_rfl) (by kernel_rfl) (by kernel_rfl)
      (by rw [MakeChecks.laidMetH_plain _ _ _ (by kernel_rfl)]; exact laidMet_laidAll _ (by kernel_rfl) (by kernel_rfl))) ?_
  intro W base args ds gs before hval0 hW hcnd hsz0 hL _
  have hsz : (DataW.weightsEach Tryd.prog (Tryd.f5.params.toList ++ Rows.fnExactStatTextSpec.plain.varTypes Tryd.prog) (ds ++ gs)).all (· ≤ reachBytes) = true := hsz0
  have hval : ∀ (j : Nat) t v, Tryd.f5.params[j]? = some t → args[j]? = some v → Value.okWide Tryd.prog W .any base t v := hval0
  have hW' := hW
  obtain ⟨p, q, hA0, hV, rfl, hfz, hnd⟩ := hW
  have hA : DataW.TrodAll enc Tryd.prog W 0 (fun _ => true) true Tryd.f5.params.toList args.toList ds p := hA0
  rw [Tryd.params5] at hA hval hsz
  obtain ⟨v0, vs0, d0, ds0, p0, q0, hargs, rfl, rfl, h0, r0⟩ := trodAll_cons hA
  obtain ⟨rfl, rfl, rfl⟩ := trodAll_nil r0
  obtain rfl : args = #[v0] := by cases args; simp_all
  obtain ⟨rfl, rfl⟩ := trodVars_none hV
  obtain ⟨a0, len0, cap0, rfl⟩ := okWide_slice Tryd.underlying22 (hval 0 22 v0 rfl rfl)
  have k0 := h0
  have lt0 : ∀ x ∈ p0, x.block < W.heap.size := by obtain ⟨m, hm⟩ := k0; exact DataW.trod_lt m _ _ _ hm
  obtain ⟨fu0, hf0⟩ := h0
  obtain ⟨l0, hr0, g0⟩ := (show Opens Tryd.prog 22 (.list (.pair .str (.pair (.int .i64) (.one (.list (.pair (.int .i64) (.pair (.int .i64) (.one (.list (.pair (.int .i64) (.one .str))))))))))) from (opens_list Tryd.underlying22 (by kernel_rfl) (of_decide_eq_true (by kernel_rfl)) (opens_struct Tryd.underlying37 (by kernel_rfl) (opensF_pair rfl (by kernel_rfl) (opens_str Tryd.underlying9) (opensF_pair rfl (by kernel_rfl) (opens_int Tryd.underlying3) (opensF_one rfl (by kernel_rfl) (opens_list Tryd.underlying35 (by kernel_rfl) (of_decide_eq_true (by kernel_rfl)) (opens_struct Tryd.underlying67 (by kernel_rfl) (opensF_pair rfl (by kernel_rfl) (opens_int Tryd.underlying3) (opensF_pair rfl (by kernel_rfl) (opens_int Tryd.underlying3) (opensF_one rfl (by kernel_rfl) (opens_list Tryd.underlying65 (by kernel_rfl) (of_decide_eq_true (by kernel_rfl)) (opens_struct Tryd.underlying99 (by kernel_rfl) (opensF_pair rfl (by kernel_rfl) (opens_int Tryd.underlying3) (opensF_one rfl (by kernel_rfl) (opens_str Tryd.underlying9)))))))))))))))) H enc W 0 _ fu0 _ _ hf0 (fun n hn => of_decide_eq_true (List.all_eq_true.1 hsz n (DataW.weights_mem_each (j := 0) rfl rfl n hn)))
  clear hA0 hval0 hsz0 hsz
  have hk := Go.Abs.G.FnExactStatText l0 g0
  have hgl : Gl Tryd.prog W (fun b => b < W.heap.size) := gl_of_laid (g := 0) (t := 109) (e := 93) (by kernel_rfl) (by kernel_rfl) Tryd.underlying109 Tryd.underlying93 (by kernel_rfl) (by kernel_rfl) (by kernel_rfl) hL (by unfold Rows.fnExactStatTextRow; repeat (first | exact .head _ | apply List.Mem.tail))
  refine (law_true Go.Abs.G.laws_FnExactStatText.meets (x := (l0)) (y := true) hk rfl (argL_val hr0 rfl argL_nil) hgl).mono fun e W' ⟨he, bel⟩ => ?_
  subst he
  exact ⟨_, rfl, _, _, _, [], _, [], hW', trodAll_mk1 (shut_bool Tryd.underlying4 _), (trodAll_cons_mk (Below.trod laidOut (by kernel_rfl) (of_decide_eq_true (by kernel_rfl)) k0 bel lt0) trodAll_mk0), rfl, bel.frame _, fun h => by cases h⟩
theorem over : Rows.fnExactStatTextRow.holds Tryd.pinned (OpenSpec.ofChange Rows.fnExactStatTextSpec) :=
  OpenClaim.holds_of_wide 5 Tryd.f5 rfl rfl rfl rfl rfl rfl rfl ⟨rfl, rfl, rfl, rfl, rfl⟩ rfl rfl rfl rfl rfl (by kernel_rfl) Tryd.func5 (by kernel_rfl)
    (of_decide_eq_true (by kernel_rfl)) (by unfold Func.isWrapper; first | (rw [if_pos (by decide +kernel)]; kernel_rfl) | (rw [if_neg (by decide +kernel)]; exact ⟨rfl, rfl⟩))
    (fun os started H enc _ => lifted os started H enc)
theorem bare : Rows.FnExactStatTextSaid := over
set_option maxRecDepth 100000 in
theorem proved : Rows.FnExactStatTextCardSaid :=
  Claim7.holds_tied_plain_at .later [] [.data, .data, .data, .data, .pinned] true (true, "aa52bb8a982f415a237def7b45c1e03b05315320da197598cb0f2c9264ed2894") false bare (fun _ h => by cases h) (by kernel_rfl) (fun _ h => by cases h) fnExactStatText_row_tie rfl ⟨rfl, rfl⟩ (by kernel_rfl) rfl
    (fun f fn hf hfn => by
      obtain rfl : f = 5 := Option.some.inj ((show Tryd.prog.funcNamed "loop.example/g00825/laws.FnExactStatText" = some 5 by kernel_rfl).symm.trans hf) |>.symm
      obtain rfl : fn = Tryd.f5 := (Option.some.inj (Tryd.func5.symm.trans hfn)).symm
      exact ⟨by kernel_rfl, fun j t ht => by
        rw [Tryd.params5] at ht
        have hm : t ∈ [22] := by simpa using Array.mem_of_getElem? ht
        have hall : ([22].all fun u => !Tryd.prog.wantsStandIn u) = true := by kernel_rfl
        exact (show Tryd.prog.wantsStandIn t = false by simpa using List.all_eq_true.1 hall t hm)⟩)
    (by kernel_rfl)
#print axioms proved
end Go.Proofs.YtkbhmdlljfknoaaDoor.fnExactStatText
namespace Go.Proofs.YtkbhmdlljfknoaaDoor
/-- The card, under a short name, for the claim. -/
theorem fnExactStatText_holds : Rows.FnExactStatTextCardSaid := fnExactStatText.proved
end Go.Proofs.YtkbhmdlljfknoaaDoor
