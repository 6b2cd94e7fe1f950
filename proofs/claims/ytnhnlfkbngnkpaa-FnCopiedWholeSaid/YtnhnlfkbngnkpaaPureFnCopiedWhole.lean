/- The plain law of CopiedWhole: a text made of pieces of itself is one piece, and of nothing it is all new. -/
import Derived.Test.YtnhnlfkbngnkpaaB9
import Derived.Test.YtnhnlfkbngnkpaaPureMake
import Derived.Test.YtnhnlfkbngnkpaaPureCopied
import Derived.Test.YtnhnlfkbngnkpaaPureDrawData
set_option linter.unusedVariables false
set_option linter.unusedSimpArgs false
namespace Go.Proofs.Ytnhnlfkbngnkpaa.Pure
open Go.RowKit Go.Proofs.YtnhnlfkbngnkpaaW.PrintWords Go.Proofs.Ytnhnlfkbngnkpaa.Tools Go.Proofs.Ytnhnlfkbngnkpaa.Ops Go.Proofs.Ytnhnlfkbngnkpaa.Draw Go.Proofs.Ytnhnlfkbngnkpaa.B

theorem drawMakeOps (l : List Int) (hl : Draw.Code l) : ∃ x y n, Ev (fun k => spec_DrawMakeOps.f k l) (x, y, n) ∧ x.size ≤ 1000 ∧ y.size ≤ 1000 := by
  unfold spec_DrawMakeOps.f
  obtain ⟨x, a1, s1, h1, hx, h2, h3⟩ := data l hl 0 0 (by omega) (by omega)
  obtain ⟨y, a2, s2, h4, hy, h5, h6⟩ := data l hl a1 s1 (by omega) (by omega)
  obtain ⟨n, a3, s3, e, hn, h7, h8⟩ := among l hl a2 s2 [1, 2, 3, 4, 0, 300, 301] (by decide) (by decide) (by omega) (by omega)
  exact ⟨x, y, n, evB h1 (evB h4 (evBS e (Ev.now _))), hx, hy⟩
theorem big (l0 l1 : List Int) (h0 : l0.length ≤ 140737488351232) : laws_big.f l0 l1 = some (decide (¬ (l0.length + l1.length ≤ 1048576))) := by
  unfold laws_big.f
  by_cases h : (l0.length : Int) > 1048576
  · rw [if_pos h]; congr 1; rw [eq_comm, decide_eq_true_eq]; omega
  · rw [if_neg h, w64 (by omega) (by omega)]; congr 1; rw [decide_eq_decide]; omega
theorem sameOps_l0 (l : List OpS) (hl : l.length ≤ 1048576) : ∀ i, i ≤ l.length → Ev (fun k => laws_sameOps.l0 k l l (l.length : Int) (i : Int)) true := by
  refine evUp0 (R := fun _ => true) ?_ ?_
  · refine evStep (fun k => by rw [laws_sameOps.l0]) ?_
    exact evNeg (by omega) (Ev.now _)
  · intro i hi k
    have hi1 : wrap64 ((i : Int) + 1) = ((i + 1 : Nat) : Int) := by rw [w64 (by omega) (by omega)]; simp
    refine evStep (fun k => by rw [laws_sameOps.l0]) ?_
    rw [hi1]
    clear hi1
    exact evPos (by omega) (evPos (by omega) (evPos (by omega) (evPos (by omega) (evNeg (by simp) k))))
theorem sameOps (l : List OpS) (hl : l.length ≤ 1048576) : Ev (fun k => laws_sameOps.f k l l) true := by
  unfold laws_sameOps.f
  exact evPos rfl (sameOps_l0 l hl 0 (by omega))
/-! of itself -/
theorem cnt_self (s : ByteArray) : ∀ d n, n + d = s.size → cnt s s 0 d n = s.size
  | 0, n, h => by unfold cnt; omega
  | d + 1, n, h => by
    unfold cnt
    rw [if_pos ⟨by omega, by rw [Nat.zero_add]⟩]
    exact cnt_self s d (n + 1) (by omega)
theorem longM_keep (s : ByteArray) : ∀ d i, 0 < i → i + d = s.size → longM s s d i 0 s.size = (0, s.size)
  | 0, i, _, _ => rfl
  | d + 1, i, h, hd => by
    unfold longM
    have := cnt_le s s i s.size 0
    rw [if_neg (by omega)]
    exact longM_keep s d (i + 1) (by omega) (by omega)
theorem longest_self (s : ByteArray) (h : s.size ≠ 0) : longest s s = (0, s.size) := by
  unfold longest
  obtain ⟨d, hd⟩ : ∃ d, s.size = d + 1 := ⟨s.size - 1, by omega⟩
  have hc := cnt_self s s.size 0 (by omega)
  rw [show longM s s s.size 0 0 0 = longM s s (d + 1) 0 0 0 by rw [hd]]
  unfold longM
  rw [hc, if_pos (by omega)]
  exact longM_keep s d 1 (by omega) (by omega)
theorem make_self (s : ByteArray) (h300 : s.size ≤ 300) : makeOps s s 1 = (if s.size = 0 then [] else [⟨1, 0, (s.size : Int), ⟨#[]⟩⟩], true) := by
  unfold makeOps
  rw [if_pos ⟨h300, h300, by omega, by omega⟩]
  by_cases h0 : s.size = 0
  · rw [if_pos h0, h0]; rfl
  · rw [if_neg h0]
    obtain ⟨d, hd⟩ : ∃ d, s.size = d + 1 := ⟨s.size - 1, by omega⟩
    rw [show makeM s 1 s.size s [] = makeM s 1 (d + 1) s [] by rw [hd]]
    unfold makeM
    rw [if_neg h0, longest_self s h0, if_pos (by show ((s.size : Nat) : Int) ≥ 1; omega)]
    have hz : (s.extract s.size s.size).size = 0 := by rw [size_ext _ _ _ (by omega)]; omega
    have hm : ∀ out, makeM s 1 d (s.extract s.size s.size) out = out := by
      intro out
      cases d with
      | zero => rfl
      | succ d => unfold makeM; rw [if_pos hz]
    dsimp only
    rw [hm]
    rfl
/-! of nothing -/
theorem longest_nil (s : ByteArray) : longest ⟨#[]⟩ s = (0, 0) := rfl
theorem make_nil_go (least : Int) (hle : 1 ≤ least) : ∀ d (s b : ByteArray), s.size ≤ d → makeM ⟨#[]⟩ least d s [⟨2, 0, 0, b⟩] = [⟨2, 0, 0, b ++ s⟩] := by
  intro d
  have hz : ∀ s b : ByteArray, s.size = 0 → b ++ s = b := by
    intro s b h
    have : s = ByteArray.empty := by
      apply ByteArray.ext
      exact Array.eq_empty_of_size_eq_zero h
    rw [this]; exact ByteArray.append_empty
  induction d with
  | zero => intro s b h; unfold makeM; rw [hz s b (by omega)]
  | succ d ih =>
    intro s b h
    unfold makeM
    by_cases h0 : s.size = 0
    · rw [if_pos h0, hz s b h0]
    rw [if_neg h0, longest_nil, if_neg (by show ¬ ((0 : Nat) : Int) ≥ least; omega)]
    have ha : addNew [(⟨2, 0, 0, b⟩ : OpS)] (s.extract 0 1) = [⟨2, 0, 0, b ++ s.extract 0 1⟩] := rfl
    rw [ha, ih _ _ (by rw [size_ext _ _ _ (by omega)]; omega), ByteArray.append_assoc]
    have : s.extract 0 1 ++ s.extract 1 s.size = s := by
      have := ByteArray.extract_eq_extract_append_extract (a := s) (i := 0) (k := s.size) 1 (by omega) (by omega)
      rw [← this, ByteArray.extract_zero_size]
    rw [this]
theorem make_nil (s : ByteArray) (least : Int) (h300 : s.size ≤ 300) (h1 : 1 ≤ least) (h2 : least ≤ 300) : makeOps ⟨#[]⟩ s least = (if s.size = 0 then [] else [⟨2, 0, 0, s⟩], true) := by
  unfold makeOps
  rw [if_pos ⟨by decide, h300, h1, h2⟩]
  by_cases h0 : s.size = 0
  · rw [if_pos h0, h0]; rfl
  · rw [if_neg h0]
    obtain ⟨d, hd⟩ : ∃ d, s.size = d + 1 := ⟨s.size - 1, by omega⟩
    rw [show makeM ⟨#[]⟩ least s.size s [] = makeM ⟨#[]⟩ least (d + 1) s [] by rw [hd]]
    unfold makeM
    rw [if_neg h0, longest_nil, if_neg (by show ¬ ((0 : Nat) : Int) ≥ least; omega)]
    have ha : addNew ([] : List OpS) (s.extract 0 1) = [⟨2, 0, 0, s.extract 0 1⟩] := rfl
    rw [ha, make_nil_go least h1 d _ _ (by rw [size_ext _ _ _ (by omega)]; omega)]
    have : s.extract 0 1 ++ s.extract 1 s.size = s := by
      have := ByteArray.extract_eq_extract_append_extract (a := s) (i := 0) (k := s.size) 1 (by omega) (by omega)
      rw [← this, ByteArray.extract_zero_size]
    rw [this]
theorem makeOps_no (old s : ByteArray) (least : Int) (h : ¬ (old.size ≤ 300 ∧ s.size ≤ 300 ∧ 1 ≤ least ∧ least ≤ 300)) : makeOps old s least = ([], false) := by
  unfold makeOps; rw [if_neg h]
theorem copied_one (n : Int) (h0 : 0 ≤ n) (h1 : n ≤ 300) : copiedM [⟨1, 0, n, ⟨#[]⟩⟩] = (n, 0, true) := by
  unfold copiedM
  rw [if_pos ⟨by intro o ho; rw [List.mem_singleton.1 ho]; exact ⟨h0, h1⟩, by simp⟩]
  simp [cp, fr]
theorem copied_new (s : ByteArray) : copiedM [⟨2, 0, 0, s⟩] = (0, (s.size : Int), true) := by
  unfold copiedM
  rw [if_pos ⟨by intro o ho; rw [List.mem_singleton.1 ho]; exact ⟨Int.le_refl 0, (by omega : (0 : Int) ≤ 300)⟩, by simp⟩]
  simp [cp, fr]
theorem copied_none : copiedM [] = (0, 0, true) := by
  unfold copiedM
  rw [if_pos ⟨(by intro o ho; cases ho), by simp⟩]
  rfl
theorem whole_j1 (s : ByteArray) (least : Int) (hs : s.size ≤ 1000) : Ev (fun k => laws_FnCopiedWhole.j1 k s least) true := by
  refine evStep (fun k => by rw [laws_FnCopiedWhole.j1]) ?_
  refine evB (implMakeOps _ s least) (evB (specMakeOps _ s least) (evNeg (by simp) ?_))
  by_cases h : s.size ≤ 300 ∧ 1 ≤ least ∧ least ≤ 300
  · rw [make_nil s least h.1 h.2.1 h.2.2]
    by_cases h0 : s.size = 0
    · rw [if_pos h0]
      refine evB (sameOps _ (by simp)) (evStep (fun k => by rw [laws_FnCopiedWhole.j2]) ?_)
      refine evNeg (by simp) (evPos rfl (evB (implCopiedIn _ (by simp) (fun o ho => by cases ho)) ?_))
      rw [copied_none]
      exact evPos rfl (evPos rfl (evPos (show (0 : Int) = (s.size : Int) by omega) (Ev.now _)))
    · rw [if_neg h0]
      refine evB (sameOps _ (by simp)) (evStep (fun k => by rw [laws_FnCopiedWhole.j2]) ?_)
      refine evNeg (by simp) (evPos rfl (evB (implCopiedIn _ (by simp) (fun o ho => by rw [List.mem_singleton.1 ho]; show s.size ≤ _; omega)) ?_))
      rw [copied_new]
      exact evPos rfl (evPos rfl (evPos rfl (Ev.now _)))
  · rw [makeOps_no _ s least (fun a => h a.2)]
    refine evB (sameOps _ (by simp)) (evStep (fun k => by rw [laws_FnCopiedWhole.j2]) ?_)
    exact evNeg (by simp) (evNeg (by simp) (Ev.now _))
theorem FnCopiedWhole : laws_FnCopiedWhole.Pure := by
  intro l0 l1 h0 h1
  refine Ev.rounds ?_
  unfold laws_FnCopiedWhole.f
  refine evBS (big l0 l1 (by omega)) ?_
  by_cases hb : l0.length + l1.length ≤ 1048576
  · refine evNeg (by simpa using hb) ?_
    have hc : Draw.Code l0 := ⟨by omega, fun x hx => wf_u8 (h0.2 x hx)⟩
    obtain ⟨x, y, n, hd, hx, hy⟩ := drawMakeOps l0 hc
    refine evB hd (evB (implMakeOps x x 1) (evB (specMakeOps x x 1) (evNeg (by simp) ?_)))
    have hj1 := whole_j1 y n hy
    by_cases h3 : x.size ≤ 300
    · rw [make_self x h3]
      by_cases hz : x.size = 0
      · rw [if_pos hz]
        refine evB (sameOps _ (by simp)) (evStep (fun k => by rw [laws_FnCopiedWhole.j0]) ?_)
        refine evNeg (by simp) (evPos rfl (evB (implCopiedIn _ (by simp) (fun o ho => by cases ho)) ?_))
        rw [copied_none]
        exact evPos rfl (evPos (show (0 : Int) = (x.size : Int) by omega) (evPos rfl (evPos (toList_nil_iff.2 hz) hj1)))
      · rw [if_neg hz]
        refine evB (sameOps _ (by simp)) (evStep (fun k => by rw [laws_FnCopiedWhole.j0]) ?_)
        refine evNeg (by simp) (evPos rfl (evB (implCopiedIn _ (by simp) (fun o ho => by rw [List.mem_singleton.1 ho]; show (⟨#[]⟩ : ByteArray).size ≤ _; decide)) ?_))
        rw [copied_one _ (by omega) (by omega)]
        exact evPos rfl (evPos rfl (evPos rfl (evNeg (fun h => hz (toList_nil_iff.1 h)) (evPos rfl (evPos (by simp) (evPos rfl hj1))))))
    · rw [makeOps_no x x 1 (fun a => h3 a.1)]
      refine evB (sameOps _ (by simp)) (evStep (fun k => by rw [laws_FnCopiedWhole.j0]) ?_)
      exact evNeg (by simp) (evNeg (by simp) hj1)
  · exact evPos (by simpa using hb) (Ev.now _)
end Go.Proofs.Ytnhnlfkbngnkpaa.Pure
