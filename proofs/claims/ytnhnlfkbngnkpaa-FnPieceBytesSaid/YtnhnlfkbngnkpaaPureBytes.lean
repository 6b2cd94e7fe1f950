/- Bytes and ops, there and back: plain laws of the reading model, of the bytes model and of tidying. -/
import Derived.Test.YtnhnlfkbngnkpaaPureRead
import Derived.Test.YtnhnlfkbngnkpaaPureOps3
import Derived.Test.YtnhnlfkbngnkpaaPurePieces
set_option linter.unusedVariables false
set_option linter.unusedSimpArgs false
namespace Go.Proofs.Ytnhnlfkbngnkpaa.Ops
open Go.RowKit Go.Proofs.YtnhnlfkbngnkpaaW.PrintWords Go.Proofs.YtnhnlfkbngnkpaaW.PrintLast Go.Proofs.YtnhnlfkbngnkpaaW.PrintMore Go.Proofs.Ytnhnlfkbngnkpaa.Tools Go.Proofs.Ytnhnlfkbngnkpaa.E

def bl (s : ByteArray) : List UInt8 := s.data.toList
theorem qgc (s : ByteArray) : (bl s).length = s.size := rfl
theorem bl_app (a b : ByteArray) : bl (a ++ b) = bl a ++ bl b := by unfold bl; rw [ByteArray.data_append, Array.toList_append]
theorem bl_inj {a b : ByteArray} (h : bl a = bl b) : a = b := ByteArray.ext (Array.toList_inj.1 h)
theorem bl_mk (l : List UInt8) : bl ⟨l.toArray⟩ = l := by simp [bl]
theorem bl_ext (s : ByteArray) (a b : Nat) : bl (s.extract a b) = ((bl s).drop a).take (b - a) := by
  unfold bl; rw [ByteArray.data_extract, Array.toList_extract]
theorem bl_end (s : ByteArray) (a : Nat) : bl (s.extract a s.size) = (bl s).drop a := by
  rw [bl_ext, List.take_of_length_le (by rw [List.length_drop, qgc]; omega)]
theorem bt_bl (s : ByteArray) (i : Nat) : bt s (i : Int) = (((bl s).getD i 0).toNat : Int) := by
  unfold bt bl
  rw [Int.toNat_natCast]
  by_cases h : i < s.size
  · rw [dif_pos h, List.getD_eq_getElem?_getD, List.getElem?_eq_getElem (by rw [Array.length_toList]; exact h)]; rfl
  · rw [dif_neg h, List.getD_eq_getElem?_getD, List.getElem?_eq_none (by rw [Array.length_toList]; exact Nat.not_lt.1 h)]; rfl
def v2 (a b : UInt8) : Int := (a.toNat : Int) * 256 + (b.toNat : Int)
def u2 (n : Int) : List UInt8 := [UInt8.ofNat ((n / 256) % 256).toNat, UInt8.ofNat (n % 256).toNat]
theorem v2_b (a b : UInt8) : 0 ≤ v2 a b ∧ v2 a b ≤ 65535 := by
  unfold v2; have := a.toNat_lt; have := b.toNat_lt; omega
theorem u2_v2 (a b : UInt8) : u2 (v2 a b) = [a, b] := by
  unfold u2 v2
  have h1 := a.toNat_lt; have h2 := b.toNat_lt
  rw [show (((a.toNat : Int) * 256 + (b.toNat : Int)) / 256 % 256).toNat = a.toNat by omega, show (((a.toNat : Int) * 256 + (b.toNat : Int)) % 256).toNat = b.toNat by omega, UInt8.ofNat_toNat, UInt8.ofNat_toNat]
theorem v2_u2 (n : Int) (h0 : 0 ≤ n) (h1 : n ≤ 65535) : v2 (UInt8.ofNat ((n / 256) % 256).toNat) (UInt8.ofNat (n % 256).toNat) = n := by
  unfold v2; rw [UInt8.toNat_ofNat', UInt8.toNat_ofNat']; omega
theorem bl_two (n : Int) : bl (two n) = u2 n := by unfold two strOfNums u2; rw [bl_mk]; rfl
theorem val2_bl (s : ByteArray) : val2 s = v2 ((bl s).getD 0 0) ((bl s).getD 1 0) := by
  unfold val2 v2; rw [show (0 : Int) = ((0 : Nat) : Int) from rfl, show (1 : Int) = ((1 : Nat) : Int) from rfl, bt_bl, bt_bl]
/-! ### the reading model over lists -/
def finL (old : ByteArray) (out : List OpS) (l : List UInt8) : RR := if l ≠ [] then bad else if Good old out then (out, 0, true) else ([], 3, false)
def readL (old : ByteArray) : Nat → Int → List OpS → List UInt8 → RR
  | 0, n, out, l => if n ≤ 0 then finL old out l else bad
  | D + 1, n, out, l => if n ≤ 0 then finL old out l else match l with
    | [] => bad
    | k :: l => if k.toNat = 1 then (match l with | a :: b :: c :: d :: t => readL old D (n - 1) (out ++ [⟨1, v2 a b, v2 c d, ⟨#[]⟩⟩]) t | _ => bad)
      else if k.toNat = 2 then (match l with | a :: b :: t => if (t.length : Int) < v2 a b then bad else readL old D (n - 1) (out ++ [⟨2, 0, 0, ⟨(t.take (v2 a b).toNat).toArray⟩⟩]) (t.drop (v2 a b).toNat) | _ => bad)
      else ([], 2, false)
theorem readL_nil (old : ByteArray) (D : Nat) (n : Int) (h : ¬ n ≤ 0) (out : List OpS) : readL old (D + 1) n out [] = bad := by rw [readL, if_neg h]
theorem qEc (old : ByteArray) (D : Nat) (n : Int) (h : ¬ n ≤ 0) (out : List OpS) (k : UInt8) (l : List UInt8) : readL old (D + 1) n out (k :: l) =
    if k.toNat = 1 then (match l with | a :: b :: c :: d :: t => readL old D (n - 1) (out ++ [⟨1, v2 a b, v2 c d, ⟨#[]⟩⟩]) t | _ => bad)
      else if k.toNat = 2 then (match l with | a :: b :: t => if (t.length : Int) < v2 a b then bad else readL old D (n - 1) (out ++ [⟨2, 0, 0, ⟨(t.take (v2 a b).toNat).toArray⟩⟩]) (t.drop (v2 a b).toNat) | _ => bad)
      else ([], 2, false) := by
  conv => lhs; unfold readL
  exact if_neg h
theorem fin_bl (old : ByteArray) (out : List OpS) (s : ByteArray) : fin old out s = finL old out (bl s) := by
  unfold fin finL
  have : s.size ≠ 0 ↔ bl s ≠ [] := by rw [← qgc]; simp [List.length_eq_zero_iff]
  by_cases h : s.size ≠ 0
  · rw [if_pos h, if_pos (this.1 h)]
  · rw [if_neg h, if_neg (fun g => h (this.2 g))]
theorem readM_bl (old : ByteArray) : ∀ D n out (s : ByteArray), readM old D n out s = readL old D n out (bl s) := by
  intro D
  induction D with
  | zero => intro n out s; unfold readM readL; rw [fin_bl]
  | succ D ih =>
    intro n out s
    by_cases hn : n ≤ 0
    · unfold readM readL; rw [if_pos hn, if_pos hn, fin_bl]
    unfold readM
    rw [if_neg hn]
    have hz := qgc s
    have hb0 := bt_bl s 0
    rw [show ((0 : Nat) : Int) = 0 from rfl] at hb0
    rw [hb0, val2_bl (s.extract 1 _), val2_bl (s.extract 3 _)]
    simp only [ih, bl_end]
    cases hl : bl s with
    | nil => rw [hl] at hz; simp at hz; rw [if_pos (by omega), readL_nil old D n hn]
    | cons k l =>
      have hz2 : s.size = l.length + 1 := by rw [← hz, hl]; rfl
      rw [if_neg (by omega), qEc old D n hn]
      have hk : (k :: l).getD 0 0 = k := rfl
      rw [hk]
      by_cases h1 : k.toNat = 1
      · rw [if_pos (by omega), if_pos h1]
        match l, hz2 with
        | [], hz2 => rw [if_pos (by simp at hz2; omega)]
        | [_], hz2 => rw [if_pos (by simp at hz2; omega)]
        | [_, _], hz2 => rw [if_neg (by simp at hz2; omega), if_pos (by simp at hz2; omega)]
        | [_, _, _], hz2 => rw [if_neg (by simp at hz2; omega), if_pos (by simp at hz2; omega)]
        | a :: b :: c :: d :: t, hz2 =>
          rw [if_neg (by simp at hz2; omega), if_neg (by simp at hz2; omega)]
          rfl
      · rw [if_neg (by omega), if_neg h1]
        by_cases h2 : k.toNat = 2
        · rw [if_pos (by omega), if_pos h2]
          match l, hz2 with
          | [], hz2 => rw [if_pos (by simp at hz2; omega)]
          | [_], hz2 => rw [if_pos (by simp at hz2; omega)]
          | a :: b :: t, hz2 =>
            simp only [List.length_cons] at hz2
            rw [if_neg (by omega)]
            have hv : v2 ((List.drop 1 (k :: a :: b :: t)).getD 0 0) ((List.drop 1 (k :: a :: b :: t)).getD 1 0) = v2 a b := rfl
            have hvb := v2_b a b
            rw [hv]
            show _ = if (t.length : Int) < v2 a b then bad else _
            by_cases h3 : (t.length : Int) < v2 a b
            · rw [if_pos (by omega), if_pos h3]
            · rw [if_neg (by omega), if_neg h3]
              have e1 : s.extract 3 (3 + (v2 a b).toNat) = ⟨(t.take (v2 a b).toNat).toArray⟩ := by
                refine bl_inj ?_
                show bl _ = bl _
                rw [bl_ext, hl, show 3 + (v2 a b).toNat - 3 = (v2 a b).toNat by omega, bl_mk (List.take (v2 a b).toNat t)]
                rfl
              have e2 : List.drop (3 + (v2 a b).toNat) (k :: a :: b :: t) = t.drop (v2 a b).toNat := by
                rw [← List.drop_drop]; rfl
              rw [e1, e2]
        · rw [if_neg (by omega), if_neg h2]
/-! ### the bytes over lists -/
def el (o : OpS) : List UInt8 := UInt8.ofNat (o.f0 % 256).toNat :: (if o.f0 = 1 then u2 o.f1 ++ u2 o.f2 else u2 (o.f3.size : Int) ++ bl o.f3)
def els (l : List OpS) : List UInt8 := l.flatMap el
theorem els_nil : els [] = [] := rfl
theorem qwc (o : OpS) (l : List OpS) : els (o :: l) = el o ++ els l := rfl
theorem bl_bytesM : ∀ (l : List OpS) (out : ByteArray), bl (bytesM out l) = bl out ++ els l
  | [], out => by unfold bytesM; rw [els_nil, List.append_nil]
  | o :: l, out => by
    unfold bytesM
    rw [bl_bytesM l, bl_app, bl_app, qwc]
    have h1 : bl (strOfNums [o.f0 % 256]) = [UInt8.ofNat (o.f0 % 256).toNat] := by unfold strOfNums; rw [bl_mk]; rfl
    have h2 : bl (enc o) = (if o.f0 = 1 then u2 o.f1 ++ u2 o.f2 else u2 (o.f3.size : Int) ++ bl o.f3) := by
      unfold enc; split <;> rw [bl_app, bl_two] <;> first | rw [bl_two] | rfl
    rw [h1, h2]
    unfold el
    simp [List.append_assoc]
theorem els_len (l : List OpS) : l.length ≤ (els l).length := by
  induction l with
  | nil => simp
  | cons o l ih => rw [qwc, List.length_append, List.length_cons]; have : 1 ≤ (el o).length := by unfold el; simp
                   omega
def ok16 (o : OpS) : Prop := (o.f0 = 1 ∧ 0 ≤ o.f1 ∧ o.f1 ≤ 65535 ∧ 0 ≤ o.f2 ∧ o.f2 ≤ 65535 ∧ o.f3 = ⟨#[]⟩) ∨ (o.f0 = 2 ∧ o.f1 = 0 ∧ o.f2 = 0 ∧ o.f3.size ≤ 65535)
theorem ok16_of {old : ByteArray} (ho : old.size ≤ 300) {o : OpS} (h : ok old o) : ok16 o := by
  unfold ok at h; unfold ok16
  rcases h with ⟨h1, h2, h3⟩ | ⟨h1, h2, h3, h4⟩
  · left; refine ⟨h1, by omega, by omega, by omega, by omega, ?_⟩
    apply bl_inj
    rw [← List.length_eq_zero_iff.1 (by rw [qgc]; omega : (bl o.f3).length = 0)]
    rfl
  · right; exact ⟨h1, h2, h3, by omega⟩
theorem op_eta (o : OpS) : (⟨o.f0, o.f1, o.f2, o.f3⟩ : OpS) = o := rfl
theorem bl_back (b : ByteArray) : (⟨(bl b).toArray⟩ : ByteArray) = b := bl_inj (bl_mk _)
theorem readL_op (old : ByteArray) (D : Nat) (n : Int) (hn : 0 < n) (out : List OpS) (o : OpS) (h : ok16 o) (t : List UInt8) :
    readL old (D + 1) n out (el o ++ t) = readL old D (n - 1) (out ++ [o]) t := by
  obtain ⟨f0, f1, f2, f3⟩ := o
  unfold el
  rcases h with ⟨h1, h2, h3, h4, h5, h6⟩ | ⟨h1, h2, h3, h4⟩
  · simp only at h1 h2 h3 h4 h5 h6
    subst h1; subst h6
    simp only [if_true, u2, List.cons_append, List.nil_append]
    rw [qEc old D n (by omega), if_pos (by decide)]
    show readL old D (n - 1) (out ++ [⟨1, v2 _ _, v2 _ _, ⟨#[]⟩⟩]) t = _
    rw [v2_u2 f1 h2 h3, v2_u2 f2 h4 h5]
  · simp only at h1 h2 h3 h4
    subst h1; subst h2; subst h3
    simp only [show ¬ ((2 : Int) = 1) by omega, if_false, u2, List.cons_append, List.nil_append]
    rw [qEc old D n (by omega), if_neg (by decide), if_pos (by decide)]
    show (if ((bl f3 ++ t).length : Int) < v2 _ _ then bad else readL old D (n - 1) (out ++ [⟨2, 0, 0, ⟨((bl f3 ++ t).take (v2 _ _).toNat).toArray⟩⟩]) ((bl f3 ++ t).drop (v2 _ _).toNat)) = _
    rw [v2_u2 _ (by omega) (by omega), if_neg (by rw [List.length_append, qgc]; omega), Int.toNat_natCast, ← qgc f3, List.take_left, List.drop_left, bl_back]
theorem readL_els (old : ByteArray) : ∀ (l : List OpS) (D : Nat) (out : List OpS), (∀ o ∈ l, ok16 o) → l.length ≤ D → readL old D (l.length : Int) out (els l) = finL old (out ++ l) []
  | [], D, out, _, _ => by
    rw [els_nil, List.append_nil]
    cases D <;> (unfold readL; exact if_pos (by simp))
  | o :: l, D, out, h, hd => by
    obtain ⟨D, rfl⟩ : ∃ d, D = d + 1 := ⟨D - 1, by simp at hd; omega⟩
    rw [qwc, readL_op old D _ (by simp) out o (h o (List.mem_cons_self)) _]
    rw [show (((o :: l).length : Nat) : Int) - 1 = (l.length : Int) by simp, readL_els old l D _ (fun x hx => h x (List.mem_cons_of_mem _ hx)) (by simp at hd; omega), List.append_assoc]
    rfl
theorem readL_short (old : ByteArray) (D : Nat) (n : Int) (hn : 0 < n) (out : List OpS) (o : OpS) (h : ok16 o) : readL old D n out (el o).dropLast = bad := by
  cases D with
  | zero => unfold readL; rw [if_neg (by omega)]
  | succ D =>
    obtain ⟨f0, f1, f2, f3⟩ := o
    unfold el
    rcases h with ⟨h1, h2, h3, h4, h5, h6⟩ | ⟨h1, h2, h3, h4⟩
    · simp only at h1; subst h1
      simp only [if_true, u2, List.cons_append, List.nil_append, List.dropLast]
      rw [qEc old D n (by omega), if_pos (by decide)]
    · simp only at h1 h4; subst h1
      simp only [show ¬ ((2 : Int) = 1) by omega, if_false, u2, List.cons_append, List.nil_append]
      rcases List.eq_nil_or_concat (bl f3) with e | ⟨p, y, e⟩
      · rw [e]; simp only [List.dropLast]; rw [qEc old D n (by omega), if_neg (by decide), if_pos (by decide)]
      · have hlen := qgc f3
        rw [e] at hlen ⊢
        rw [List.concat_eq_append] at *
        simp only [List.length_append, List.length_singleton] at hlen
        have hdl : (UInt8.ofNat ((2 : Int) % 256).toNat :: UInt8.ofNat ((f3.size : Int) / 256 % 256).toNat :: UInt8.ofNat ((f3.size : Int) % 256).toNat :: (p ++ [y])).dropLast
            = UInt8.ofNat ((2 : Int) % 256).toNat :: UInt8.ofNat ((f3.size : Int) / 256 % 256).toNat :: UInt8.ofNat ((f3.size : Int) % 256).toNat :: p := by
          rw [← List.cons_append, ← List.cons_append, ← List.cons_append, List.dropLast_concat]
        rw [hdl, qEc old D n (by omega), if_neg (by decide), if_pos (by decide)]
        show (if (p.length : Int) < v2 _ _ then bad else _) = _
        rw [v2_u2 _ (by omega) (by omega), if_pos (by omega)]
theorem el_ne (o : OpS) : el o ≠ [] := by unfold el; simp
theorem els_ne {l : List OpS} (h : l ≠ []) : els l ≠ [] := by
  cases l with
  | nil => exact absurd rfl h
  | cons o l => rw [qwc]; exact fun g => el_ne o (List.append_eq_nil_iff.1 g).1
theorem readL_cut (old : ByteArray) : ∀ (l : List OpS) (D : Nat) (out : List OpS), (∀ o ∈ l, ok16 o) → l ≠ [] → readL old D (l.length : Int) out (els l).dropLast = bad
  | [], _, _, _, h => absurd rfl h
  | [o], D, out, h, _ => by
    rw [qwc, els_nil, List.append_nil]
    exact readL_short old D _ (by simp) out o (h o (List.mem_cons_self))
  | o :: p :: l, D, out, h, _ => by
    cases D with
    | zero => unfold readL; rw [if_neg (by simp; omega)]
    | succ D =>
      rw [qwc, List.dropLast_append_of_ne_nil (els_ne (by simp)), readL_op old D _ (by simp; omega) out o (h o (List.mem_cons_self)) _]
      rw [show (((o :: p :: l).length : Nat) : Int) - 1 = ((p :: l).length : Int) by simp]
      exact readL_cut old (p :: l) D _ (fun x hx => h x (List.mem_cons_of_mem _ hx)) (by simp)
theorem finL_conv {old : ByteArray} {out x : List OpS} {l : List UInt8} (h : finL old out l = (x, 0, true)) : x = out ∧ l = [] ∧ Good old out := by
  unfold finL bad at h
  split at h
  · simp at h
  · rename_i hl
    split at h
    · rename_i hg
      exact ⟨(congrArg Prod.fst h).symm, Decidable.not_not.1 hl, hg⟩
    · simp at h
theorem readL_conv (old : ByteArray) : ∀ (D : Nat) (n : Int) (out x : List OpS) (s : List UInt8), 0 ≤ n → readL old D n out s = (x, 0, true) → ∃ l, x = out ++ l ∧ (l.length : Int) = n ∧ els l = s ∧ Good old x := by
  intro D
  induction D with
  | zero =>
    intro n out x s h0 h
    unfold readL at h
    split at h
    · obtain ⟨rfl, rfl, hg⟩ := finL_conv h
      exact ⟨[], by simp, by simp; omega, rfl, hg⟩
    · simp [bad] at h
  | succ D ih =>
    intro n out x s h0 h
    unfold readL at h
    split at h
    · obtain ⟨rfl, rfl, hg⟩ := finL_conv h
      exact ⟨[], by simp, by simp; omega, rfl, hg⟩
    rename_i hn
    split at h
    · simp [bad] at h
    rename_i k l
    split at h
    · rename_i h1
      split at h
      · rename_i a b c d t
        obtain ⟨m, rfl, hm, rfl, hg⟩ := ih _ _ _ _ (by omega) h
        refine ⟨⟨1, v2 a b, v2 c d, ⟨#[]⟩⟩ :: m, by simp, by simp; omega, ?_, hg⟩
        rw [qwc]
        unfold el
        simp only [if_true, u2_v2, List.cons_append, List.nil_append]
        rw [show UInt8.ofNat ((1 : Int) % 256).toNat = k from UInt8.toNat_inj.1 (by rw [h1]; rfl)]
      · simp [bad] at h
    · split at h
      · rename_i h1 h2
        split at h
        · rename_i a b t
          split at h
          · simp [bad] at h
          · rename_i hlt
            have hv := v2_b a b
            obtain ⟨m, rfl, hm, hs, hg⟩ := ih _ _ _ _ (by omega) h
            have hsz : ((⟨(t.take (v2 a b).toNat).toArray⟩ : ByteArray).size : Int) = v2 a b := by rw [← qgc, bl_mk, List.length_take]; omega
            refine ⟨⟨2, 0, 0, ⟨(t.take (v2 a b).toNat).toArray⟩⟩ :: m, by simp, by simp; omega, ?_, hg⟩
            rw [qwc, hs]
            unfold el
            simp only [show ¬ ((2 : Int) = 1) by omega, if_false, hsz, u2_v2, bl_mk, List.cons_append, List.nil_append, List.take_append_drop]
            rw [show UInt8.ofNat ((2 : Int) % 256).toNat = k from UInt8.toNat_inj.1 (by rw [h2]; rfl)]
        · simp [bad] at h
      · simp at h
/-! ### there and back -/
theorem good16 {old : ByteArray} {l : List OpS} (h : Good old l) : ∀ o ∈ l, ok16 o := fun o ho => ok16_of h.2.1 (h.1 o ho)
theorem bytes_bl (l : List OpS) : bl (bytesM (two (l.length : Int)) l) = u2 (l.length : Int) ++ els l := by rw [bl_bytesM, bl_two]
theorem bytes_size (l : List OpS) : (bytesM (two (l.length : Int)) l).size = 2 + (els l).length := by rw [← qgc, bytes_bl, List.length_append]; rfl
theorem read_bytes {old : ByteArray} {l : List OpS} (h : Good old l) : readOps old (bytesM (two (l.length : Int)) l) = (l, 0, true) := by
  unfold readOps
  have hz := bytes_size l
  have hl := els_len l
  have h3 := h.2.2.1
  rw [if_neg (by omega), readM_bl, bl_end, val2_bl, bytes_bl]
  have e : v2 ((u2 (l.length : Int) ++ els l).getD 0 0) ((u2 (l.length : Int) ++ els l).getD 1 0) = (l.length : Int) := v2_u2 _ (by omega) (by omega)
  rw [e, show List.drop 2 (u2 (l.length : Int) ++ els l) = els l from rfl, readL_els old l _ [] (good16 h) (by omega), List.nil_append]
  unfold finL
  rw [if_neg (by simp), if_pos h]
theorem read_cut {old : ByteArray} {l : List OpS} (h : Good old l) : readOps old ((bytesM (two (l.length : Int)) l).extract 0 ((bytesM (two (l.length : Int)) l).size - 1)) = bad := by
  have hz := bytes_size l
  have h3 := h.2.2.1
  have hb : bl ((bytesM (two (l.length : Int)) l).extract 0 ((bytesM (two (l.length : Int)) l).size - 1)) = (u2 (l.length : Int) ++ els l).dropLast := by
    rw [bl_ext, bytes_bl, List.drop_zero, hz, List.dropLast_eq_take, Nat.sub_zero]
    congr 1
    rw [List.length_append]; rfl
  generalize (bytesM (two (l.length : Int)) l).extract 0 ((bytesM (two (l.length : Int)) l).size - 1) = s at hb
  unfold readOps
  by_cases hl : l = []
  · subst hl
    have : s.size = 1 := by rw [← qgc, hb]; rfl
    rw [if_pos (by omega)]
  · rw [List.dropLast_append_of_ne_nil (els_ne hl)] at hb
    have hs : s.size = 2 + (els l).dropLast.length := by rw [← qgc, hb, List.length_append]; rfl
    rw [if_neg (by omega), readM_bl, bl_end, val2_bl, hb]
    have e : v2 ((u2 (l.length : Int) ++ (els l).dropLast).getD 0 0) ((u2 (l.length : Int) ++ (els l).dropLast).getD 1 0) = (l.length : Int) := v2_u2 _ (by omega) (by omega)
    rw [e, show List.drop 2 (u2 (l.length : Int) ++ (els l).dropLast) = (els l).dropLast from rfl]
    exact readL_cut old l _ [] (good16 h) hl
theorem read_back {old s : ByteArray} {x : List OpS} (h : readOps old s = (x, 0, true)) : Good old x ∧ bytesM (two (x.length : Int)) x = s := by
  unfold readOps at h
  split at h
  · simp [bad] at h
  rename_i hs
  rw [readM_bl, bl_end] at h
  obtain ⟨l, rfl, hl, he, hg⟩ := readL_conv old _ _ _ _ _ (val2_b s).1 h
  refine ⟨hg, bl_inj ?_⟩
  rw [bytes_bl, hl, he, val2_bl, u2_v2]
  have hz := qgc s
  match hb : bl s, hz with
  | [], hz => simp at hz; omega
  | [_], hz => simp at hz; omega
  | a :: b :: t, hz => rfl
theorem readOps_ok {old s : ByteArray} (h : (readOps old s).2.2 = true) : (readOps old s).2.1 = 0 := by
  have hf : ∀ (out : List OpS) (s : ByteArray), (fin old out s).2.2 = true → (fin old out s).2.1 = 0 := by
    intro out s
    unfold fin bad
    split
    · simp
    · split <;> simp
  have hM : ∀ D n out (s : ByteArray), (readM old D n out s).2.2 = true → (readM old D n out s).2.1 = 0 := by
    intro D
    induction D with
    | zero =>
      intro n out s
      unfold readM
      split
      · exact hf _ _
      · simp [bad]
    | succ D ih =>
      intro n out s
      unfold readM
      split
      · exact hf _ _
      split
      · simp [bad]
      split
      · split
        · simp [bad]
        split
        · simp [bad]
        · exact ih _ _ _
      · split
        · split
          · simp [bad]
          split
          · simp [bad]
          · exact ih _ _ _
        · simp
  revert h
  unfold readOps
  split
  · simp [bad]
  · exact hM _ _ _ _
/-! ### tidied twice -/
def J (w y : OpS) : Prop := w.f0 = y.f0 ∧ (y.f0 = 2 ∨ w.f1 + w.f2 = y.f1)
def Ch : List OpS → Prop
  | [] => True
  | [_] => True
  | x :: y :: l => ¬ J x y ∧ Ch (y :: l)
theorem join_not {y o : OpS} (h : ¬ J y o) : join y o = [y, o] := by
  unfold join
  unfold J at h
  split
  · rename_i h0
    rw [if_neg (fun g => h ⟨h0, Or.inl g⟩), if_neg (fun g => h ⟨h0, Or.inr g⟩)]
  · rfl
theorem join_one {y o : OpS} (h : J y o) : ∃ x : OpS, join y o = [x] ∧ x.f0 = y.f0 ∧ x.f1 = y.f1 := by
  unfold join
  unfold J at h
  rw [if_pos h.1]
  split
  · exact ⟨_, rfl, rfl, rfl⟩
  · rename_i h2
    rw [if_pos (h.2.resolve_left h2)]
    exact ⟨_, rfl, rfl, rfl⟩
theorem Ch_put : ∀ (p : List OpS) (y x : OpS), Ch (p ++ [y]) → x.f0 = y.f0 → x.f1 = y.f1 → Ch (p ++ [x])
  | [], _, _, _, _, _ => trivial
  | [w], y, x, h, h0, h1 => by
    refine ⟨?_, trivial⟩
    have := h.1
    unfold J at this ⊢
    rw [h0, h1]; exact this
  | w :: v :: p, y, x, h, h0, h1 => ⟨h.1, Ch_put (v :: p) y x h.2 h0 h1⟩
theorem Ch_add : ∀ (p : List OpS) (y o : OpS), Ch (p ++ [y]) → ¬ J y o → Ch (p ++ [y, o])
  | [], _, _, _, h => ⟨h, trivial⟩
  | [w], y, o, h, h0 => ⟨h.1, h0, trivial⟩
  | w :: v :: p, y, o, h, h0 => ⟨h.1, Ch_add (v :: p) y o h.2 h0⟩
theorem Ch_mid : ∀ (p : List OpS) (y o : OpS) (l : List OpS), Ch (p ++ y :: o :: l) → ¬ J y o
  | [], _, _, _, h => h.1
  | [w], y, o, l, h => h.2.1
  | w :: v :: p, y, o, l, h => Ch_mid (v :: p) y o l h.2
theorem push_ch {out : List OpS} (h : Ch out) (o : OpS) : Ch (push out o) := by
  rcases List.eq_nil_or_concat out with rfl | ⟨p, y, rfl⟩
  · exact trivial
  · rw [List.concat_eq_append] at *
    rw [push_app]
    by_cases hj : J y o
    · obtain ⟨x, e, h0, h1⟩ := join_one hj
      rw [e]; exact Ch_put p y x h h0 h1
    · rw [join_not hj]; exact Ch_add p y o h hj
theorem tidy_ch : ∀ (l out : List OpS), Ch out → Ch (tidyM out l)
  | [], out, h => h
  | o :: l, out, h => tidy_ch l _ (push_ch h o)
theorem tidy_id : ∀ (l out : List OpS), Ch (out ++ l) → tidyM out l = out ++ l
  | [], out, _ => (List.append_nil out).symm
  | o :: l, out, h => by
    unfold tidyM
    have e : push out o = out ++ [o] := by
      rcases List.eq_nil_or_concat out with rfl | ⟨p, y, rfl⟩
      · rfl
      · rw [List.concat_eq_append] at *
        rw [List.append_assoc] at h
        rw [push_app, join_not (Ch_mid p y o l h), List.append_assoc]; rfl
    rw [e, tidy_id l _ (by rw [List.append_assoc]; exact h), List.append_assoc]; rfl
theorem tidy_twice (l : List OpS) : tidyM [] (tidyM [] l) = tidyM [] l := tidy_id _ [] (tidy_ch l [] trivial)
end Go.Proofs.Ytnhnlfkbngnkpaa.Ops
