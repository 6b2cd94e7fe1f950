/- Lines: what is a line, what are good lines: one plain model. -/
import Derived.Lib.IndexAny
import Derived.Test.YtafohchkacclpaaC1
import Derived.Test.YtafohchkacclpaaC4
import Derived.Test.YtafohchkacclpaaC5
import Derived.Test.YtafohchkacclpaaPureText0
set_option linter.unusedVariables false
set_option linter.unusedSimpArgs false
namespace Go.Proofs.Ytafohchkacclpaa.Text
open Go.RowKit Go.Proofs.YtafohchkacclpaaW.PrintWords Go.Proofs.YtafohchkacclpaaW.PrintLast Go.Proofs.YtafohchkacclpaaW.PrintMore Go.Proofs.Ytafohchkacclpaa.Tools Go.Proofs.Ytafohchkacclpaa.C

def bl (s : ByteArray) : List UInt8 := s.data.toList
theorem bl_len (s : ByteArray) : (bl s).length = s.size := rfl
theorem bl_inj {a b : ByteArray} (h : bl a = bl b) : a = b := ByteArray.ext (Array.toList_inj.1 h)
theorem bl_ext (s : ByteArray) (a b : Nat) : bl (s.extract a b) = ((bl s).drop a).take (b - a) := by
  unfold bl; rw [ByteArray.data_extract, Array.toList_extract]
theorem bt_bl (s : ByteArray) (i : Nat) : bt s (i : Int) = (((bl s).getD i 0).toNat : Int) := by
  unfold bt bl
  rw [Int.toNat_natCast]
  by_cases h : i < s.size
  · rw [dif_pos h, List.getD_eq_getElem?_getD, List.getElem?_eq_getElem (by rw [Array.length_toList]; exact h)]; rfl
  · rw [dif_neg h, List.getD_eq_getElem?_getD, List.getElem?_eq_none (by rw [Array.length_toList]; exact Nat.not_lt.1 h)]; rfl
theorem sIn (a b c : Int) : spec_l1In.f a b c = some (decide (b ≤ a ∧ a ≤ c)) := by
  unfold spec_l1In.f
  by_cases h : a ≥ b
  · rw [if_pos h]; congr 1; rw [decide_eq_decide]; omega
  · rw [if_neg h]; congr 1; rw [eq_comm, decide_eq_false_iff_not]; omega
theorem iIn (a b c : Int) : impl_in.f a b c = some (decide (b ≤ a ∧ a ≤ c)) := by
  unfold impl_in.f
  by_cases h : a ≥ b
  · rw [if_pos h]; congr 1; rw [decide_eq_decide]; omega
  · rw [if_neg h]; congr 1; rw [eq_comm, decide_eq_false_iff_not]; omega
/-- A line. -/
def lineP (s : ByteArray) : Prop := 1 ≤ s.size ∧ s.size ≤ 30 ∧ (10 : UInt8) ∉ (bl s).take (s.size - 1)
instance (s : ByteArray) : Decidable (lineP s) := by unfold lineP; exact inferInstance
/-- It ends. -/
def endP (s : ByteArray) : Prop := 1 ≤ s.size ∧ (bl s).getD (s.size - 1) 0 = 10
instance (s : ByteArray) : Decidable (endP s) := by unfold endP; exact inferInstance
theorem toNat10 (b : UInt8) : ((b.toNat : Nat) : Int) = 10 ↔ b = 10 := by
  constructor
  · intro h; exact UInt8.toNat_inj.1 (by have : (10 : UInt8).toNat = 10 := rfl; omega)
  · rintro rfl; rfl
theorem sLine (s : ByteArray) (hs : s.size ≤ 1048576) : Ev (fun k => spec_l1Line.f k s) (decide (lineP s)) := by
  unfold spec_l1Line.f
  have hL : ((bl s).take (s.size - 1)).length = s.size - 1 := by rw [List.length_take, bl_len]; omega
  have hw : wrap64 ((s.size : Int) - 1) = (s.size : Int) - 1 := w64 (by omega) (by omega)
  have key := evUp0 (n := s.size - 1) (g := fun i k => spec_l1Line.l0 k s (i : Int)) (R := fun i => decide (1 ≤ s.size ∧ s.size ≤ 30 ∧ (10 : UInt8) ∉ ((bl s).take (s.size - 1)).drop i)) ?_ ?_ 0 (by omega)
  · exact evEq key (by rw [decide_eq_decide, List.drop_zero]; exact Iff.rfl)
  · refine evStep (fun k => by rw [spec_l1Line.l0]) ?_
    simp only [hw]
    clear hw
    refine evNeg (by omega) (evBS (sIn _ _ _) (evEq (Ev.now _) ?_))
    rw [decide_eq_decide, List.drop_eq_nil_of_le (by omega)]
    constructor
    · intro h; exact ⟨by omega, by omega, List.not_mem_nil⟩
    · intro h; omega
  · intro i hi k
    have hi1 := up1 hi (by omega)
    refine evStep (fun k => by rw [spec_l1Line.l0]) ?_
    simp only [hw, hi1]
    clear hw
    refine evPos (by omega) (evPos (by omega) (evPos (by omega) ?_))
    have hb : bt s (i : Int) = 10 ↔ ((bl s).take (s.size - 1)).getD i 0 = 10 := by
      rw [bt_bl, toNat10, List.getD_eq_getElem?_getD, List.getD_eq_getElem?_getD, List.getElem?_take_of_lt hi]
    have hd := drop_at (l := (bl s).take (s.size - 1)) (i := i) (by omega) 0
    by_cases h : bt s (i : Int) = 10
    · refine evPos h (evEq (Ev.now _) ?_)
      rw [eq_comm, decide_eq_false_iff_not, hd, hb.1 h]
      rintro ⟨_, _, h3⟩
      exact h3 List.mem_cons_self
    · refine evNeg h (evEq k ?_)
      rw [decide_eq_decide, hd, List.mem_cons, not_or]
      have : ¬ (10 : UInt8) = ((bl s).take (s.size - 1)).getD i 0 := fun g => h (hb.2 g.symm)
      exact ⟨fun ⟨a, b, c⟩ => ⟨a, b, this, c⟩, fun ⟨a, b, _, c⟩ => ⟨a, b, c⟩⟩
theorem iLine (s : ByteArray) (hs : s.size ≤ 1048576) : impl_isLine.f s = some (decide (lineP s)) := by
  have hw : wrap64 ((s.size : Int) - 1) = (s.size : Int) - 1 := w64 (by omega) (by omega)
  unfold impl_isLine.f
  rw [iIn, hw]
  clear hw
  simp only [Option.bind_some, decide_eq_true_eq]
  by_cases h : (1 : Int) ≤ (s.size : Int) ∧ (s.size : Int) ≤ 30
  · rw [if_pos h, if_pos (by omega), if_pos (by omega)]
    unfold strings_Contains.f
    rw [if_pos rfl]
    simp only [Option.bind_some]
    congr 1
    rw [← Go.Lib.contains_iff_indexByte]
    have he : (s.extract 0 ((s.size : Int) - 1).toNat).data.toList = (bl s).take (s.size - 1) := by
      show bl _ = _
      rw [bl_ext, List.drop_zero]; congr 1; omega
    rw [he]
    by_cases hm : (10 : UInt8) ∈ (bl s).take (s.size - 1)
    · rw [List.contains_iff_mem.2 hm]; exact (decide_eq_false (fun g : lineP s => g.2.2 hm)).symm
    · have : ((bl s).take (s.size - 1)).contains 10 = false := by rw [← Bool.not_eq_true, List.contains_iff_mem]; exact hm
      rw [this]; exact (decide_eq_true (show lineP s from ⟨by omega, by omega, hm⟩)).symm
  · rw [if_neg h]
    congr 1
    rw [eq_comm, decide_eq_false_iff_not]
    unfold lineP
    omega
theorem sEnds (s : ByteArray) (h1 : 1 ≤ s.size) (hs : s.size ≤ 1048576) : spec_l1Ends.f s = some (decide (endP s)) := by
  have hw : wrap64 ((s.size : Int) - 1) = ((s.size - 1 : Nat) : Int) := by rw [w64 (by omega) (by omega)]; omega
  unfold spec_l1Ends.f
  rw [hw, if_pos (by omega), if_pos (by omega), bt_bl]
  congr 1
  rw [Bool.eq_iff_iff, beq_iff_eq, toNat10, decide_eq_true_eq]
  exact ⟨fun h => ⟨h1, h⟩, fun h => h.2⟩
theorem iEnds (s : ByteArray) (hs : s.size ≤ 1048576) : impl_isEnded.f s = some (decide (endP s)) := by
  unfold impl_isEnded.f strings_HasSuffix.f stringslite_HasSuffix.f
  have h10 : (⟨#[10]⟩ : ByteArray).size = 1 := rfl
  have hw : wrap64 ((s.size : Int) - 1) = (s.size : Int) - 1 := w64 (by omega) (by omega)
  simp only [h10, Int.ofNat_one]
  rw [hw]
  clear hw
  by_cases h : (s.size : Int) ≥ 1
  · rw [if_pos h, if_pos (by omega), if_pos (by omega)]
    simp only [Option.bind_some]
    congr 1
    rw [Bool.eq_iff_iff, beq_iff_eq, bytes_eq_iff, decide_eq_true_eq]
    have hb : bl (s.extract ((s.size : Int) - 1).toNat s.size) = [(bl s).getD (s.size - 1) 0] := by
      rw [bl_ext]
      have e : ((s.size : Int) - 1).toNat = s.size - 1 := by omega
      rw [e, drop_at (l := bl s) (i := s.size - 1) (by rw [bl_len]; omega) 0, show s.size - (s.size - 1) = 1 by omega]
      rfl
    constructor
    · intro g
      rw [g] at hb
      refine ⟨by omega, ?_⟩
      have : [(10 : UInt8)] = [(bl s).getD (s.size - 1) 0] := hb
      exact ((List.cons.inj this).1).symm
    · intro g
      refine bl_inj ?_
      rw [hb, g.2]; rfl
  · rw [if_neg h]
    simp only [Option.bind_some]
    congr 1
    rw [eq_comm, decide_eq_false_iff_not]
    unfold endP
    omega
/-! ### good lines -/
def endsT : T → Bool
  | [] => true
  | s :: t => (t.isEmpty || decide (endP s)) && endsT t
def allLines (l : T) : Bool := l.all fun s => decide (lineP s)
theorem allLines_cons (s : ByteArray) (l : T) : allLines (s :: l) = (decide (lineP s) && allLines l) := rfl
def goodB (l : T) : Bool := decide (l.length ≤ 40) && allLines l && endsT l
theorem drop_empty {l : T} {i : Nat} (h : i < l.length) : (l.drop (i + 1)).isEmpty = decide (¬ (i : Int) < (l.length : Int) - 1) := by
  rw [Bool.eq_iff_iff, List.isEmpty_iff, List.drop_eq_nil_iff, decide_eq_true_eq]; omega
theorem iAre (l : T) (hl : Sm l) : Ev (fun k => impl_areLines.f k l) (decide (l.length ≤ 40) && allLines l) := by
  have hL := hl.1
  have idx : ∀ i, i ≤ l.length → ∃ r : Int, Ev (fun k => slices_IndexFunc_string_string_impl_areLines_1.l0 k l (l.length : Int) (i : Int)) r ∧ (decide (r ≥ 0) = !(allLines (l.drop i))) := by
    intro i hi
    obtain ⟨d, hd⟩ : ∃ d, l.length - i = d := ⟨_, rfl⟩
    induction d generalizing i with
    | zero =>
      refine ⟨-1, evStep (fun k => by rw [slices_IndexFunc_string_string_impl_areLines_1.l0]) (evNeg (by omega) (Ev.now _)), ?_⟩
      rw [List.drop_eq_nil_of_le (by omega)]; rfl
    | succ d ih =>
      have hlt : i < l.length := by omega
      have hi1 := up1 hlt (by omega)
      have hsz := hl.2 _ (getD_mem hlt em)
      obtain ⟨r, hr, hp⟩ := ih (i + 1) (by omega) (by omega)
      have hline : impl_areLines_1.f (l.getD i em) = some (!decide (lineP (l.getD i em))) := by unfold impl_areLines_1.f; rw [iLine _ hsz]; rfl
      by_cases h : lineP (l.getD i em)
      · refine ⟨r, evStep (fun k => by rw [slices_IndexFunc_string_string_impl_areLines_1.l0]) ?_, ?_⟩
        · simp only [hi1, rd_t]
          clear hi1
          exact evPos (by omega) (evPos (by omega) (evPos (by omega) (evBS hline (evNeg (by rw [decide_eq_true h]; decide) hr))))
        · rw [hp, drop_at hlt em, allLines_cons, decide_eq_true h, Bool.true_and]
      · refine ⟨(i : Int), evStep (fun k => by rw [slices_IndexFunc_string_string_impl_areLines_1.l0]) ?_, ?_⟩
        · simp only [hi1, rd_t]
          clear hi1
          exact evPos (by omega) (evPos (by omega) (evPos (by omega) (evBS hline (evPos (by rw [decide_eq_false h]; rfl) (Ev.now _)))))
        · rw [drop_at hlt em, allLines_cons, decide_eq_false h, Bool.false_and]; exact decide_eq_true (by omega)
  obtain ⟨r, hr, hp⟩ := idx 0 (by omega)
  unfold impl_areLines.f slices_ContainsFunc_string_string_impl_areLines_1.f slices_IndexFunc_string_string_impl_areLines_1.f
  by_cases h : l.length ≤ 40
  · refine evPos (by omega) (evB (evB hr (Ev.now _)) (evEq (Ev.now _) ?_))
    rw [hp, decide_eq_true h]; simp
  · exact evNeg (by omega) (evEq (Ev.now _) (by rw [decide_eq_false h]; rfl))
theorem iGood (l : T) (hl : Sm l) : Ev (fun k => impl_goodLines.f k l) (goodB l) := by
  unfold impl_goodLines.f
  have hL := hl.1
  refine evB (iAre l hl) ?_
  unfold goodB
  by_cases hg : (decide (l.length ≤ 40) && allLines l) = true
  · rw [hg, Bool.true_and]
    refine evPos rfl ?_
    have hw : wrap64 ((l.length : Int) - 1) = (l.length : Int) - 1 := w64 (by omega) (by omega)
    have key := evUp0 (n := l.length) (g := fun i k => impl_goodLines.l0 k l l (l.length : Int) (i : Int)) (R := fun i => endsT (l.drop i)) ?_ ?_ 0 (by omega)
    · exact evEq key (by simp)
    · refine evStep (fun k => by rw [impl_goodLines.l0]) ?_
      refine evNeg (by omega) (evEq (Ev.now _) ?_)
      rw [List.drop_eq_nil_of_le (by omega)]; rfl
    · intro i hi k
      have hi1 := up1 hi (by omega)
      have hsz := hl.2 _ (getD_mem hi em)
      have he := drop_empty hi
      have hR : endsT (l.drop i) = ((decide (¬ (i : Int) < (l.length : Int) - 1) || decide (endP (l.getD i em))) && endsT (l.drop (i + 1))) := by
        rw [drop_at hi em]; simp only [endsT, he]
      rw [hR]
      refine evStep (fun k => by rw [impl_goodLines.l0]) ?_
      simp only [hw, hi1, rd_t]
      clear hw hi1
      refine evPos (by omega) (evPos (by omega) (evPos (by omega) ?_))
      by_cases h2 : (i : Int) < (l.length : Int) - 1
      · rw [decide_eq_false (show ¬ ¬ (i : Int) < (l.length : Int) - 1 from fun g => g h2), Bool.false_or]
        refine evPos h2 (evBS (iEnds _ hsz) ?_)
        by_cases h3 : endP (l.getD i em)
        · rw [decide_eq_true h3, Bool.true_and]; exact evPos rfl k
        · rw [decide_eq_false h3, Bool.false_and]; exact evNeg (by simp) (Ev.now _)
      · rw [decide_eq_true h2, Bool.true_or, Bool.true_and]
        exact evNeg h2 k
  · rw [Bool.not_eq_true] at hg
    rw [hg, Bool.false_and]
    exact evNeg (by simp) (Ev.now _)
end Go.Proofs.Ytafohchkacclpaa.Text
