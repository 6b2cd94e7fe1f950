/- The law FnExactFilesText: for every input it returns true and leaves the input as it was. Out of its pure statement and the evaluator's contract. -/
import Derived.Test.YtkbhmdlljfknoaaGreatDoorRows
import Derived.Test.YtkbhmdlljfknoaaGreatDoorCards
import Derived.Test.YtkbhmdlljfknoaaGreatDoorTie
import Derived.Test.YtkbhmdlljfknoaaGreatDoorP1
import Derived.WalkKit
import Derived.ProofKit
import Derived.OpenShut
import Derived.ShutString
import Derived.ChangeOld
import Derived.Below
import Derived.SizedLaws
import Derived.Lay
import Derived.LaidOnce
import Derived.SevenTiedAt
import Derived.Stop.Joined
namespace Go.Proofs.YtkbhmdlljfknoaaGreatDoor.fnExactFilesText
open Go.ChangeShapes Go.WideShapes Go.ChangeAt Go.RowKit Go.Abs
open Go.ChangeMaps (open_string shut_string)
set_option linter.unusedVariables false
theorem own : ownKnob Tryz.prog.godebug = none := by kernel_rfl
theorem laidOut : laidOutB Tryz.prog = true := by kernel_rfl
set_option maxRecDepth 100000 in
theorem lifted (os : Os) (started : os.Started) (H : Type) (enc : TypeId × Value → H) :
    ReturnsInHanded {} Tryz.checked os 3 .any (fun w args => (Rows.fnExactFilesTextSpec.pre enc Tryz.prog Tryz.f3 [] false w args ∧ laidMetH Tryz.prog Rows.fnExactFilesTextRow.laid w) ∧ sizedMet enc Tryz.prog Tryz.f3 (OpenSpec.ofChange Rows.fnExactFilesTextSpec) false w args) (Rows.fnExactFilesTextSpec.post enc Tryz.prog Tryz.f3 false true false false) := by
  refine returnsInHanded_of_change_and (C := Tryz.checked) (X := fun w _ => laidMetH Tryz.prog Rows.fnExactFilesTextRow.laid w) (fun _ _ _ hh h => h.of_heap hh) own started (by kernel_rfl) Tryz.func3
    (ChangeSpec.witness_shaped (enc := enc) (C := Tryz.checked) (os := os) (X := fun w _ => laidMetH Tryz.prog Rows.fnExactFilesTextRow.laid w) false (World.laidAll Tryz.prog os Rows.fnExactFilesTextRow.laid) #[.slice none 0 0] 8 (World.laidAll_os _ _ _)
      (World.shaped_of_ZipB (by kernel_rfl) (by kernel_rfl)) (by kernel_rfl) (by kernel_rfl) (by kernel_rfl)
      (by rw [MakeChecks.laidMetH_plain _ _ _ (by kernel_rfl)]; exact laidMet_laidAll _ (by kernel_rfl) (by kernel_rfl))) ?_
  intro W base args ds gs before hval0 hW hcnd hsz0 hL _
  have hsz : (DataW.weightsEach Tryz.prog (Tryz.f3.params.toList ++ Rows.fnExactFilesTextSpec.plain.varTypes Tryz.prog) (ds ++ gs)).all (· ≤ reachBytes) = true := hsz0
  have hval : ∀ (j : Nat) t v, Tryz.f3.params[j]? = some t → args[j]? = some v → Value.okWide Tryz.prog W .any base t v := hval0
  have hW' := hW
  obtain ⟨p, q, hA0, hV, rfl, hfz, hnd⟩ := hW
  have hA : DataW.TrodAll enc Tryz.prog W 0 (fun _ => true) true Tryz.f3.params.toList args.toList ds p := hA0
  rw [Tryz.params3] at hA hval hsz
  obtain ⟨v0, vs0, d0, ds0, p0, q0, hargs, rfl, rfl, h0, r0⟩ := trodAll_cons hA
  obtain ⟨rfl, rfl, rfl⟩ := trodAll_nil r0
  obtain rfl : args = #[v0] := by cases args; simp_all
  obtain ⟨rfl, rfl⟩ := trodVars_none hV
  obtain ⟨a0, len0, cap0, rfl⟩ := okWide_slice Tryz.underlying22 (hval 0 22 v0 rfl rfl)
  have k0 := h0
  have lt0 : ∀ x ∈ p0, x.block < W.heap.size := by obtain ⟨m, hm⟩ := k0; exact DataW.trod_lt m _ _ _ hm
  obtain ⟨fu0, hf0⟩ := h0
  obtain ⟨l0, hr0, g0⟩ := (show Opens Tryz.prog 22 (.list (.pair .str (.pair (.int .i64) (.one (.list (.pair (.int .i64) (.pair (.int .i64) (.one (.list (.pair (.int .i64) (.one .str))))))))))) from (opens_list Tryz.underlying22 (by kernel_rfl) (of_decide_eq_true (by kernel_rfl)) (opens_struct Tryz.underlying33 (by kernel_rfl) (opensF_pair rfl (by kernel_rfl) (opens_str Tryz.underlying9) (opensF_pair rfl (by kernel_rfl) (opens_int Tryz.underlying3) (opensF_one rfl (by kernel_rfl) (opens_list Tryz.underlying31 (by kernel_rfl) (of_decide_eq_true (by kernel_rfl)) (opens_struct Tryz.underlying63 (by kernel_rfl) (opensF_pair rfl (by kernel_rfl) (opens_int Tryz.underlying3) (opensF_pair rfl (by kernel_rfl) (opens_int Tryz.underlying3) (opensF_one rfl (by kernel_rfl) (opens_list Tryz.underlying61 (by kernel_rfl) (of_decide_eq_true (by kernel_rfl)) (opens_struct Tryz.underlying91 (by kernel_rfl) (opensF_pair rfl (by kernel_rfl) (opens_int Tryz.underlying3) (opensF_one rfl (by kernel_rfl) (opens_str Tryz.underlying9)))))))))))))))) H enc W 0 _ fu0 _ _ hf0 (fun n hn => of_decide_eq_true (List.all_eq_true.1 hsz n (DataW.weights_mem_each (j := 0) rfl rfl n hn)))
  clear hA0 hval0 hsz0 hsz
  have hk := Go.Abs.G.FnExactFilesText l0 g0
  have hgl : Gl Tryz.prog W (fun b => b < W.heap.size) := gl_of_laid (g := 2) (t := 120) (e := 105) (by kernel_rfl) (by kernel_rfl) Tryz.underlying120 Tryz.underlying105 (by kernel_rfl) (by kernel_rfl) (by kernel_rfl) hL (by unfold Rows.fnExactFilesTextRow; repeat (first | exact .head _ | apply List.Mem.tail))
  refine (law_true Go.Abs.G.laws_FnExactFilesText.meets (x := (l0)) (y := true) hk rfl (argL_val hr0 rfl argL_nil) hgl).mono fun e W' ⟨he, bel⟩ => ?_
  subst he
  exact ⟨_, rfl, _, _, _, [], _, [], hW', trodAll_mk1 (shut_bool Tryz.underlying4 _), (trodAll_cons_mk (Below.trod laidOut (by kernel_rfl) (of_decide_eq_true (by kernel_rfl)) k0 bel lt0) trodAll_mk0), rfl, bel.frame _, fun h => by cases h⟩
theorem over : Rows.fnExactFilesTextRow.holds Tryz.pinned (OpenSpec.ofChange Rows.fnExactFilesTextSpec) :=
  OpenClaim.holds_of_wide 3 Tryz.f3 rfl rfl rfl rfl rfl rfl rfl ⟨rfl, rfl, rfl, rfl, rfl⟩ rfl rfl rfl rfl rfl (by kernel_rfl) Tryz.func3 (by kernel_rfl)
    (of_decide_eq_true (by kernel_rfl)) (by unfold Func.isWrapper; first | (rw [if_pos (by decide +kernel)]; kernel_rfl) | (rw [if_neg (by decide +kernel)]; exact ⟨rfl, rfl⟩))
    (fun os started H enc _ => lifted os started H enc)
theorem bare : Rows.FnExactFilesTextSaid := over
set_option maxRecDepth 100000 in
theorem proved : Rows.FnExactFilesTextCardSaid :=
  Claim7.holds_tied_plain_at .later [] [.data, .data, .data, .data, .pinned] true (true, "c567e135f0b799abeea03e4b8d7bf5334e07688f2916adb1e0a14131cd6de294") false bare (fun _ h => by cases h) (by kernel_rfl) (fun _ h => by cases h) fnExactFilesText_row_tie rfl ⟨rfl, rfl⟩ (by kernel_rfl) rfl
    (fun f fn hf hfn => by
      obtain rfl : f = 3 := Option.some.inj ((show Tryz.prog.funcNamed "loop.example/g00825/laws.FnExactFilesText" = some 3 by kernel_rfl).symm.trans hf) |>.symm
      obtain rfl : fn = Tryz.f3 := (Option.some.inj (Tryz.func3.symm.trans hfn)).symm
      exact ⟨by kernel_rfl, fun j t ht => by
        rw [Tryz.params3] at ht
        have hm : t ∈ [22] := by simpa using Array.mem_of_getElem? ht
        have hall : ([22].all fun u => !Tryz.prog.wantsStandIn u) = true := by kernel_rfl
        exact (show Tryz.prog.wantsStandIn t = false by simpa using List.all_eq_true.1 hall t hm)⟩)
    (by kernel_rfl)
#print axioms proved
end Go.Proofs.YtkbhmdlljfknoaaGreatDoor.fnExactFilesText
namespace Go.Proofs.YtkbhmdlljfknoaaGreatDoor
/-- The card, under a short name, for the claim. -/
theorem fnExactFilesText_holds : Rows.FnExactFilesTextCardSaid := fnExactFilesText.proved
end Go.Proofs.YtkbhmdlljfknoaaGreatDoor
