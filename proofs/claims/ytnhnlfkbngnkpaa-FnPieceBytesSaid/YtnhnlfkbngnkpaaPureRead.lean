/- How ops are read from bytes: a plain model, and that program and reference both answer it. -/
import Derived.Laws.BitsLemmas
import Derived.Test.YtnhnlfkbngnkpaaE7
import Derived.Test.YtnhnlfkbngnkpaaE8
import Derived.Test.YtnhnlfkbngnkpaaPureOps2
set_option linter.unusedVariables false
set_option linter.unusedSimpArgs false
namespace Go.Proofs.Ytnhnlfkbngnkpaa.Ops
open Go.RowKit Go.Proofs.YtnhnlfkbngnkpaaW.PrintWords Go.Proofs.YtnhnlfkbngnkpaaW.PrintLast Go.Proofs.YtnhnlfkbngnkpaaW.PrintMore Go.Proofs.Ytnhnlfkbngnkpaa.Tools Go.Proofs.Ytnhnlfkbngnkpaa.E

def val2 (s : ByteArray) : Int := bt s 0 * 256 + bt s 1
theorem bt_b (s : ByteArray) (i : Int) : 0 ≤ bt s i ∧ bt s i ≤ 255 := bt_range s i
theorem val2_b (s : ByteArray) : 0 ≤ val2 s ∧ val2 s ≤ 65535 := by have := bt_b s 0; have := bt_b s 1; unfold val2; omega
theorem or_sum (a b : Int) (ha : 0 ≤ a) (ha2 : a ≤ 255) (hb : 0 ≤ b) (hb2 : b ≤ 255) : Go.bits .or .i64 (a * 256) b = a * 256 + b :=
 bits_join .i64 16 (by decide) (fun n h0 h1 => by rw [IntKind.wrap_i64]; omega) 8 (a * 256) b (by omega) (by omega) (by omega) hb (by omega) (by omega)
theorem sz0 : (⟨#[]⟩ : ByteArray).size = 0 := rfl
theorem qSb (s : ByteArray) (a b : Nat) (h : b ≤ s.size) : (s.extract a b).size = b - a := by rw [ByteArray.size_extract]; omega
theorem bt_ext (s : ByteArray) (a n : Nat) (h : a + n ≤ s.size) (i : Nat) (hi : i < n) : bt (s.extract a (a + n)) (i : Int) = bt s ((a + i : Nat) : Int) := by
 have h1 : (s.extract a (a + n)).size = n := by rw [qSb _ _ _ h]; omega
 unfold bt
 rw [dif_pos (by rw [h1]; simpa using hi), dif_pos (by simp; omega)]
 have e : (((a + i : Nat) : Int)).toNat = a + i := by omega
 congr 2
 simp only [ByteArray.getElem_extract, Int.toNat_natCast]

/-! ### the program's reader -/
theorem implTake (s : ByteArray) (b : Bool) (a : Int) (h0 : 0 ≤ a) : qxb.f s b a = some (if (s.size : Int) < a then (⟨#[]⟩, s, true) else (s.extract 0 a.toNat, s.extract a.toNat s.size, b)) := by
 unfold qxb.f
 by_cases h : (s.size : Int) < a
 ·rw [if_pos h, if_pos h]
 ·rw [if_neg h, if_neg h, if_pos h0, if_pos (by omega)]
theorem implNumber (s : ByteArray) (hs : s.size ≤ 1048576) : qDb.f s false = some (if s.size < 2 then (0, s, true) else (val2 s, s.extract 2 s.size, false)) := by
 unfold qDb.f
 rw [implTake s false 2 (by omega)]
 by_cases h : s.size < 2
 ·rw [if_pos (by omega), if_pos h]; rfl
 ·rw [if_neg (by omega), if_neg h]
  simp only [Option.bind_some, Bool.false_eq_true, if_false]
  have hz : (s.extract 0 (2 : Int).toNat).size = 2 := by rw [qSb _ _ _ (by simp; omega)]; rfl
  have e0 : bt (s.extract 0 (2 : Int).toNat) 0 = bt s 0 := bt_ext s 0 2 (by omega) 0 (by omega)
  have e1 : bt (s.extract 0 (2 : Int).toNat) 1 = bt s 1 := bt_ext s 0 2 (by omega) 1 (by omega)
  rw [hz, e0, e1, if_pos (by decide), if_pos (by decide)]
  have b0 := bt_b s 0
  have b1 := bt_b s 1
  rw [w64 (x := bt s 0) (by omega) (by omega), w64 (x := bt s 0 * 256) (by omega) (by omega), w64 (x := bt s 1) (by omega) (by omega), or_sum _ _ b0.1 b0.2 b1.1 b1.2]
  rfl
theorem implNumber_bad (s : ByteArray) : ∃ r, qDb.f s true = some (0, r, true) := by
 unfold qDb.f
 rw [implTake s true 2 (by omega)]
 by_cases h : (s.size : Int) < 2
 ·rw [if_pos h]; exact ⟨_, rfl⟩
 ·rw [if_neg h]; exact ⟨_, rfl⟩
theorem implTake_bad (s : ByteArray) (a : Int) (h0 : 0 ≤ a) : ∃ b r, qxb.f s true a = some (b, r, true) := by
 rw [implTake s true a h0]
 by_cases h : (s.size : Int) < a
 ·rw [if_pos h]; exact ⟨_, _, rfl⟩
 ·rw [if_neg h]; exact ⟨_, _, rfl⟩
abbrev RR := List OpS × Int × Bool
def bad : RR := ([], 1, false)
theorem implBad_j2 (old : ByteArray) (out : List OpS) (s : ByteArray) : Ev (fun k => qI.j2 k old out s true) bad := by
 refine qV (fun k => by rw [qI.j2]) ?_
 refine qA rfl (qV (fun k => by rw [qI.j3]) ?_)
 exact qA rfl (Ev.now _)
theorem qIc (old : ByteArray) (out : List OpS) (n i : Int) (s : ByteArray) : Ev (fun k => qI.l0 k old out n i s true) bad := by
 have h : Ev (fun k => qI.j1 k old out n i false s true) bad := by
  refine qV (fun k => by rw [qI.j1]) ?_
  exact qP (by simp) (implBad_j2 old out s)
 refine qV (fun k => by rw [qI.l0]) ?_
 exact evIte (fun _ => h) (fun _ => h)

/-! ### the reference's reader -/
theorem specTake (s : ByteArray) (p : Nat) (hp : p ≤ s.size) (hs : s.size ≤ 1048576) (a : Int) (h0 : 0 ≤ a) (h1 : a ≤ 65535) :
  qwb.f s (p : Int) false a = some (if ((s.size - p : Nat) : Int) < a then (⟨#[]⟩, s, (p : Int), true) else (s.extract p (p + a.toNat), s, ((p + a.toNat : Nat) : Int), false)) := by
 have hw : wrap64 ((p : Int) + a) = ((p + a.toNat : Nat) : Int) := by rw [w64 (by omega) (by omega)]; omega
 unfold qwb.f
 rw [hw]
 clear hw
 simp only [Bool.false_eq_true, if_false]
 by_cases h : ((s.size - p : Nat) : Int) < a
 ·rw [if_pos (by omega), if_pos h]
 ·rw [if_neg (by omega), if_neg h, if_pos (by omega), if_pos (by omega), if_pos (by omega), Int.toNat_natCast, Int.toNat_natCast]
theorem specTake_bad (s : ByteArray) (p a : Int) : qwb.f s p true a = some (⟨#[]⟩, s, p, true) := by unfold qwb.f; rw [if_pos rfl]
theorem specTwo_bad (s : ByteArray) (p : Int) : qTb.f s p true = some (0, s, p, true) := by
 unfold qTb.f
 rw [specTake_bad]
 simp only [Option.bind_some]
 rw [if_pos (qBc.2 rfl)]
theorem specTwo (s : ByteArray) (p : Nat) (hp : p ≤ s.size) (hs : s.size ≤ 1048576) :
  qTb.f s (p : Int) false = some (if s.size - p < 2 then (0, s, (p : Int), true) else (val2 (s.extract p s.size), s, ((p + 2 : Nat) : Int), false)) := by
 unfold qTb.f
 rw [specTake s p hp hs 2 (by omega) (by omega)]
 by_cases h : s.size - p < 2
 ·rw [if_pos (by omega), if_pos h]
  simp only [Option.bind_some]
  rw [if_pos (qBc.2 rfl)]
 ·rw [if_neg (by omega), if_neg h]
  simp only [Option.bind_some]
  have hz : (s.extract p (p + (2 : Int).toNat)).size = 2 := by rw [qSb _ _ _ (by simp; omega)]; simp
  have e0 : bt (s.extract p (p + (2 : Int).toNat)) 0 = bt (s.extract p s.size) 0 := by
   have a := bt_ext s p 2 (by omega) 0 (by omega)
   have b := bt_ext s p (s.size - p) (by omega) 0 (by omega)
   rw [show p + (s.size - p) = s.size by omega] at b
   exact a.trans b.symm
  have e1 : bt (s.extract p (p + (2 : Int).toNat)) 1 = bt (s.extract p s.size) 1 := by
   have a := bt_ext s p 2 (by omega) 1 (by omega)
   have b := bt_ext s p (s.size - p) (by omega) 1 (by omega)
   rw [show p + (s.size - p) = s.size by omega] at b
   exact a.trans b.symm
  have hne : ¬ (s.extract p (p + (2 : Int).toNat)).toList = [] := fun h => by have := qBc.1 h; omega
  rw [if_neg hne, hz, e0, e1, if_pos (by decide), if_pos (by decide)]
  clear hz e0 e1 hne
  have b0 := bt_b (s.extract p s.size) 0
  have b1 := bt_b (s.extract p s.size) 1
  rw [w64 (x := bt (s.extract p s.size) 0) (by omega) (by omega), w64 (x := bt (s.extract p s.size) 0 * 256) (by omega) (by omega), w64 (x := bt (s.extract p s.size) 1) (by omega) (by omega), w64 (by omega) (by omega)]
  simp [val2]
theorem specBad_j2 (old x : ByteArray) (out : List OpS) (s : ByteArray) (p : Int) : Ev (fun k => qQ.j2 k old x out s p true) bad := by
 refine qV (fun k => by rw [qQ.j2]) ?_
 refine qA rfl (qV (fun k => by rw [qQ.j3]) ?_)
 exact qA rfl (Ev.now _)
theorem qKc (old x : ByteArray) (out : List OpS) (n : Int) (s : ByteArray) (p : Int) : Ev (fun k => qQ.l0 k old x out n s p true) bad := by
 have h : Ev (fun k => qQ.j1 k old x out n false s p true) bad := by
  refine qV (fun k => by rw [qQ.j1]) ?_
  exact qP (by simp) (specBad_j2 old x out s p)
 refine qV (fun k => by rw [qQ.l0]) ?_
 exact evIte (fun _ => h) (fun _ => h)

/-! ### the model -/
def fin (old : ByteArray) (out : List OpS) (s : ByteArray) : RR := if s.size ≠ 0 then bad else if Good old out then (out, 0, true) else ([], 3, false)
def readM (old : ByteArray) : Nat → Int → List OpS → ByteArray → RR
 | 0, n, out, s => if n ≤ 0 then fin old out s else bad
 | d + 1, n, out, s => if n ≤ 0 then fin old out s else if s.size < 1 then bad else
   if bt s 0 = 1 then (if s.size < 3 then bad else if s.size < 5 then bad else readM old d (n - 1) (out ++ [⟨1, val2 (s.extract 1 s.size), val2 (s.extract 3 s.size), ⟨#[]⟩⟩]) (s.extract 5 s.size))
   else if bt s 0 = 2 then (if s.size < 3 then bad else if ((s.size - 3 : Nat) : Int) < val2 (s.extract 1 s.size) then bad else readM old d (n - 1) (out ++ [⟨2, 0, 0, s.extract 3 (3 + (val2 (s.extract 1 s.size)).toNat)⟩]) (s.extract (3 + (val2 (s.extract 1 s.size)).toNat) s.size))
   else ([], 2, false)
theorem rext (s : ByteArray) (a m : Nat) (ha : a + m ≤ s.size) : (s.extract a s.size).extract m (s.extract a s.size).size = s.extract (a + m) s.size := by
 rw [ByteArray.extract_extract, qSb _ _ _ (by omega)]; congr 1; omega
theorem rext2 (s : ByteArray) (a m : Nat) (ha : a + m ≤ s.size) : (s.extract a s.size).extract 0 m = s.extract a (a + m) := by
 rw [ByteArray.extract_extract]; congr 1; omega
theorem implRead_l0 (old : ByteArray) (ho : old.size ≤ 1048576) (N : Int) (hN : N ≤ 65535) : ∀ d (i : Int) (out : List OpS) (s : ByteArray), 0 ≤ i → i ≤ 65535 → s.size ≤ d → s.size ≤ 1048576 → out.length + s.size ≤ 1048576 →
  Ev (fun k => qI.l0 k old out N i s false) (readM old d (N - i) out s) := by
 intro d
 have hfin : ∀ (out : List OpS) (s : ByteArray), out.length ≤ 1048576 → Ev (fun k => qI.j2 k old out s false) (fin old out s) := by
  intro out s hl
  refine qV (fun k => by rw [qI.j2]) ?_
  refine qP (by simp) ?_
  unfold fin
  by_cases h : s.size = 0
  ·have : (s.toList != ([] : List UInt8)) = false := by rw [qBc.2 h]; rfl
   rw [this, if_neg (by omega)]
   refine qV (fun k => by rw [qI.j3]) ?_
   refine qP (by simp) (evB (implGoodOps old ho out hl) ?_)
   by_cases hg : Good old out
   ·rw [if_pos hg]; exact qA (decide_eq_true hg) (Ev.now _)
   ·rw [if_neg hg]; exact qP (by simpa using hg) (Ev.now _)
  ·have : (s.toList != ([] : List UInt8)) = true := by rw [bne_iff_ne]; exact fun h2 => h (qBc.1 h2)
   rw [this, if_pos h]
   refine qV (fun k => by rw [qI.j3]) ?_
   exact qA rfl (Ev.now _)
 have hend : ∀ (i : Int) (out : List OpS) (s : ByteArray), out.length ≤ 1048576 → ¬ i < N → Ev (fun k => qI.l0 k old out N i s false) (fin old out s) := by
  intro i out s hl hi
  refine qV (fun k => by rw [qI.l0]) ?_
  refine qP hi (qV (fun k => by rw [qI.j1]) ?_)
  exact qP (by simp) (hfin out s hl)
 induction d with
 | zero =>
  intro i out s h0 h1 hd hs hl
  unfold readM
  by_cases hi : i < N
  ·rw [if_neg (by omega)]
   refine qV (fun k => by rw [qI.l0]) ?_
   refine qA hi (qV (fun k => by rw [qI.j1]) ?_)
   refine qA rfl (evBS (implTake s false 1 (by omega)) ?_)
   rw [if_pos (by omega)]
   exact qA rfl (implBad_j2 old out s)
  ·rw [if_pos (by omega)]; exact hend i out s (by omega) hi
 | succ d ih =>
  intro i out s h0 h1 hd hs hl
  unfold readM
  by_cases hi : i < N
  ·rw [if_neg (by omega)]
   refine qV (fun k => by rw [qI.l0]) ?_
   refine qA hi (qV (fun k => by rw [qI.j1]) ?_)
   refine qA rfl (evBS (implTake s false 1 (by omega)) ?_)
   by_cases hz : s.size < 1
   ·rw [if_pos (by omega), if_pos hz]
    exact qA rfl (implBad_j2 old out s)
   rw [if_neg (by omega), if_neg hz]
   have hz1 : (s.extract 0 (1 : Int).toNat).size = 1 := by rw [qSb _ _ _ (by simp; omega)]; rfl
   have e0 : bt (s.extract 0 (1 : Int).toNat) 0 = bt s 0 := bt_ext s 0 1 (by omega) 0 (by omega)
   have b0 := bt_b s 0
   have ew : wrap64 (bt s 0) = bt s 0 := w64 (by omega) (by omega)
   refine qP (by simp) ?_
   simp only [hz1, e0, ew]
   clear ew hz1 e0
   refine qA (by decide) ?_
   have t1 : (1 : Int).toNat = 1 := rfl
   rw [t1]
   have hr1 : (s.extract 1 s.size).size = s.size - 1 := by rw [qSb _ _ _ (by omega)]
   have hn1 : qDb.f (s.extract 1 s.size) false = some (if s.size < 3 then (0, s.extract 1 s.size, true) else (val2 (s.extract 1 s.size), s.extract 3 s.size, false)) := by
    rw [implNumber _ (by rw [hr1]; omega), hr1]
    by_cases h3 : s.size < 3
    ·rw [if_pos h3, if_pos (by omega)]
    ·rw [if_neg h3, if_neg (by omega), ← hr1, rext s 1 2 (by omega)]
   clear hr1
   have hii : wrap64 (i + 1) = i + 1 := w64 (by omega) (by omega)
   rw [hii]
   clear hii
   by_cases hk1 : bt s 0 = 1
   ·rw [if_pos hk1]
    refine qA hk1 (evBS hn1 ?_)
    by_cases h3 : s.size < 3
    ·rw [if_pos h3, if_pos h3]
     obtain ⟨r, hr⟩ := implNumber_bad (s.extract 1 s.size)
     exact evBS hr (qA (by omega) (qIc old _ N _ r))
    rw [if_neg h3, if_neg h3]
    have hr3 : (s.extract 3 s.size).size = s.size - 3 := by rw [qSb _ _ _ (by omega)]
    have hn2 : qDb.f (s.extract 3 s.size) false = some (if s.size < 5 then (0, s.extract 3 s.size, true) else (val2 (s.extract 3 s.size), s.extract 5 s.size, false)) := by
     rw [implNumber _ (by rw [hr3]; omega), hr3]
     by_cases h5 : s.size < 5
     ·rw [if_pos h5, if_pos (by omega)]
     ·rw [if_neg h5, if_neg (by omega), ← hr3, rext s 3 2 (by omega)]
    clear hr3
    refine evBS hn2 ?_
    by_cases h5 : s.size < 5
    ·rw [if_pos h5, if_pos h5]
     exact qA (by omega) (qIc old _ N _ _)
    rw [if_neg h5, if_neg h5]
    have hr5 : (s.extract 5 s.size).size = s.size - 5 := by rw [qSb _ _ _ (by omega)]
    refine qA (by omega) ?_
    rw [hk1, show N - i - 1 = N - (i + 1) by omega]
    exact ih (i + 1) _ _ (by omega) (by omega) (by rw [hr5]; omega) (by rw [hr5]; omega) (by rw [hr5]; simp; omega)
   ·rw [if_neg hk1]
    refine qP hk1 ?_
    by_cases hk2 : bt s 0 = 2
    ·rw [if_pos hk2]
     refine qA hk2 (evBS hn1 ?_)
     by_cases h3 : s.size < 3
     ·rw [if_pos h3, if_pos h3]
      obtain ⟨b, r, hr⟩ := implTake_bad (s.extract 1 s.size) 0 (by omega)
      exact evBS hr (qA (by omega) (qIc old _ N _ r))
     rw [if_neg h3, if_neg h3]
     have hv := val2_b (s.extract 1 s.size)
     generalize val2 (s.extract 1 s.size) = v at hv ⊢
     have hr3 : (s.extract 3 s.size).size = s.size - 3 := by rw [qSb _ _ _ (by omega)]
     refine evBS (implTake _ false v hv.1) ?_
     rw [hr3]
     by_cases hlt : ((s.size - 3 : Nat) : Int) < v
     ·rw [if_pos hlt, if_pos hlt]
      exact qA (by omega) (qIc old _ N _ _)
     rw [if_neg hlt, if_neg hlt, ← hr3, rext s 3 v.toNat (by omega), rext2 s 3 v.toNat (by omega)]
     clear hr3
     have hrv : (s.extract (3 + v.toNat) s.size).size = s.size - (3 + v.toNat) := by rw [qSb _ _ _ (by omega)]
     refine qA (by omega) ?_
     rw [hk2, show N - i - 1 = N - (i + 1) by omega]
     exact ih (i + 1) _ _ (by omega) (by omega) (by rw [hrv]; omega) (by rw [hrv]; omega) (by rw [hrv]; simp; omega)
    ·rw [if_neg hk2]
     exact qP hk2 (Ev.now _)
  ·rw [if_pos (by omega)]; exact hend i out s (by omega) hi
theorem bt_rem (s : ByteArray) (p n : Nat) (h : p + n ≤ s.size) (hn : 0 < n) : bt (s.extract p (p + n)) 0 = bt (s.extract p s.size) 0 := by
 have a := bt_ext s p n h 0 hn
 have b := bt_ext s p (s.size - p) (by omega) 0 (by omega)
 rw [show p + (s.size - p) = s.size by omega] at b
 exact a.trans b.symm
theorem specRead_l0 (old s : ByteArray) (ho : old.size ≤ 1048576) (hs : s.size ≤ 1048576) : ∀ d (n : Int) (out : List OpS) (p : Nat), 0 ≤ n → n ≤ 65535 → p ≤ s.size → s.size - p ≤ d → out.length + (s.size - p) ≤ 1048576 →
  Ev (fun k => qQ.l0 k old s out n s (p : Int) false) (readM old d n out (s.extract p s.size)) := by
 intro d
 have hfin : ∀ (out : List OpS) (p : Nat), p ≤ s.size → out.length ≤ 1048576 → Ev (fun k => qQ.j2 k old s out s (p : Int) false) (fin old out (s.extract p s.size)) := by
  intro out p hp hl
  have hz : (s.extract p s.size).size = s.size - p := qSb _ _ _ (by omega)
  refine qV (fun k => by rw [qQ.j2]) ?_
  refine qP (by simp) ?_
  unfold fin
  rw [hz]
  clear hz
  by_cases h : s.size - p = 0
  ·have : decide ((p : Int) < (s.size : Int)) = false := decide_eq_false (by omega)
   rw [this, if_neg (by omega)]
   refine qV (fun k => by rw [qQ.j3]) ?_
   refine qP (by simp) (evB (l14Good old ho out hl) ?_)
   by_cases hg : Good old out
   ·rw [if_pos hg]; exact qA (decide_eq_true hg) (Ev.now _)
   ·rw [if_neg hg]; exact qP (by simpa using hg) (Ev.now _)
  ·have : decide ((p : Int) < (s.size : Int)) = true := decide_eq_true (by omega)
   rw [this, if_pos h]
   refine qV (fun k => by rw [qQ.j3]) ?_
   exact qA rfl (Ev.now _)
 have hend : ∀ (n : Int) (out : List OpS) (p : Nat), p ≤ s.size → out.length ≤ 1048576 → ¬ n > 0 → Ev (fun k => qQ.l0 k old s out n s (p : Int) false) (fin old out (s.extract p s.size)) := by
  intro n out p hp hl hn
  refine qV (fun k => by rw [qQ.l0]) ?_
  refine qP hn (qV (fun k => by rw [qQ.j1]) ?_)
  exact qP (by simp) (hfin out p hp hl)
 induction d with
 | zero =>
  intro n out p h0 h1 hp hd hl
  unfold readM
  by_cases hn : n > 0
  ·rw [if_neg (by omega)]
   refine qV (fun k => by rw [qQ.l0]) ?_
   refine qA hn (qV (fun k => by rw [qQ.j1]) ?_)
   refine qA rfl (evBS (specTake s p hp hs 1 (by omega) (by omega)) ?_)
   rw [if_pos (by omega)]
   exact qA rfl (specBad_j2 old s out s p)
  ·rw [if_pos (by omega)]; exact hend n out p hp (by omega) hn
 | succ d ih =>
  intro n out p h0 h1 hp hd hl
  unfold readM
  by_cases hn : n > 0
  ·rw [if_neg (by omega)]
   have HZ := qb.mk (qSb s p s.size (by omega))
   rw [HZ.out]
   refine qV (fun k => by rw [qQ.l0]) ?_
   refine qA hn (qV (fun k => by rw [qQ.j1]) ?_)
   refine qA rfl (evBS (specTake s p hp hs 1 (by omega) (by omega)) ?_)
   by_cases hz : s.size - p < 1
   ·rw [if_pos (by omega), if_pos hz]
    exact qA rfl (specBad_j2 old s out s p)
   rw [if_neg (by omega), if_neg hz]
   have t1 : (1 : Int).toNat = 1 := rfl
   rw [t1]
   have hz1 : (s.extract p (p + 1)).size = 1 := by rw [qSb _ _ _ (by omega)]; omega
   have e0 : bt (s.extract p (p + 1)) 0 = bt (s.extract p s.size) 0 := bt_rem s p 1 (by omega) (by omega)
   have x1 : (s.extract p s.size).extract 1 (s.size - p) = s.extract (p + 1) s.size := by rw [← HZ.out, rext s p 1 (by omega)]
   have x3 : 3 ≤ s.size - p → (s.extract p s.size).extract 3 (s.size - p) = s.extract (p + 3) s.size := fun h => by rw [← HZ.out, rext s p 3 (by omega)]
   have x5 : 5 ≤ s.size - p → (s.extract p s.size).extract 5 (s.size - p) = s.extract (p + 5) s.size := fun h => by rw [← HZ.out, rext s p 5 (by omega)]
   have b0 := bt_b (s.extract p s.size) 0
   have ew : wrap64 (bt (s.extract p s.size) 0) = bt (s.extract p s.size) 0 := w64 (by omega) (by omega)
   refine qP (by simp) ?_
   simp only [hz1, e0, ew, x1]
   clear ew hz1 e0 x1
   generalize bt (s.extract p s.size) 0 = kd at b0 ⊢
   refine qA (by decide) ?_
   have hn1 := specTwo s (p + 1) (by omega) hs
   rw [show s.size - (p + 1) = s.size - p - 1 by omega, show p + 1 + 2 = p + 3 by omega] at hn1
   have hii : wrap64 (n - 1) = n - 1 := w64 (by omega) (by omega)
   rw [hii]
   clear hii
   by_cases hk1 : kd = 1
   ·rw [if_pos hk1]
    refine qA hk1 (evBS hn1 ?_)
    by_cases h3 : s.size - p < 3
    ·rw [if_pos (by omega), if_pos h3]
     exact evBS (specTwo_bad s _) (qA (by omega) (qKc old s _ _ s _))
    rw [if_neg (by omega), if_neg h3]
    have hn2 := specTwo s (p + 3) (by omega) hs
    rw [show s.size - (p + 3) = s.size - p - 3 by omega, show p + 3 + 2 = p + 5 by omega] at hn2
    refine evBS hn2 ?_
    by_cases h5 : s.size - p < 5
    ·rw [if_pos (by omega), if_pos h5]
     exact qA (by omega) (qKc old s _ _ s _)
    rw [if_neg (by omega), if_neg h5, x3 (by omega), x5 (by omega)]
    refine qA (by omega) ?_
    rw [hk1]
    exact ih (n - 1) _ (p + 5) (by omega) (by omega) (by omega) (by omega) (by simp; omega)
   ·rw [if_neg hk1]
    refine qP hk1 ?_
    by_cases hk2 : kd = 2
    ·rw [if_pos hk2]
     refine qA hk2 (evBS hn1 ?_)
     by_cases h3 : s.size - p < 3
     ·rw [if_pos (by omega), if_pos h3]
      exact evBS (specTake_bad s _ _) (qA (by omega) (qKc old s _ _ s _))
     rw [if_neg (by omega), if_neg h3]
     have hv := val2_b (s.extract (p + 1) s.size)
     generalize val2 (s.extract (p + 1) s.size) = v at hv ⊢
     refine evBS (specTake s (p + 3) (by omega) hs v hv.1 hv.2) ?_
     rw [show s.size - (p + 3) = s.size - p - 3 by omega]
     by_cases hlt : ((s.size - p - 3 : Nat) : Int) < v
     ·rw [if_pos hlt, if_pos hlt]
      exact qA (by omega) (qKc old s _ _ s _)
     rw [if_neg hlt, if_neg hlt]
     have y1 : (s.extract p s.size).extract 3 (3 + v.toNat) = s.extract (p + 3) (p + 3 + v.toNat) := by rw [ByteArray.extract_extract]; congr 1; omega
     have y2 : (s.extract p s.size).extract (3 + v.toNat) (s.size - p) = s.extract (p + 3 + v.toNat) s.size := by rw [← HZ.out, rext s p (3 + v.toNat) (by omega)]; congr 1; omega
     rw [y1, y2]
     clear y1 y2
     refine qA (by omega) ?_
     rw [hk2]
     exact ih (n - 1) _ (p + 3 + v.toNat) (by omega) (by omega) (by omega) (by omega) (by simp; omega)
    ·rw [if_neg hk2]
     exact qP hk2 (Ev.now _)
  ·rw [if_pos (by omega)]; exact hend n out p hp (by omega) hn
def readOps (old s : ByteArray) : RR := if s.size < 2 then bad else readM old s.size (val2 s) [] (s.extract 2 s.size)
theorem implReadOps (old s : ByteArray) (ho : old.size ≤ 1048576) (hs : s.size ≤ 1048576) : Ev (fun k => qI.f k old s) (readOps old s) := by
 unfold qI.f readOps
 refine evBS (implNumber s hs) ?_
 by_cases h : s.size < 2
 ·rw [if_pos h, if_pos h]
  exact qIc old _ _ _ s
 ·rw [if_neg h, if_neg h]
  have hv := val2_b s
  have hr : (s.extract 2 s.size).size = s.size - 2 := qSb _ _ _ (by omega)
  have := implRead_l0 old ho (val2 s) hv.2 s.size 0 [] (s.extract 2 s.size) (by omega) (by omega) (by rw [hr]; omega) (by rw [hr]; omega) (by rw [hr]; simp; omega)
  rw [Int.sub_zero] at this
  exact this
theorem specReadOps (old s : ByteArray) (ho : old.size ≤ 1048576) (hs : s.size ≤ 1048576) : Ev (fun k => qQ.f k old s) (readOps old s) := by
 unfold qQ.f readOps
 have h2 := specTwo s 0 (by omega) hs
 rw [Nat.sub_zero, ByteArray.extract_zero_size] at h2
 refine evBS h2 ?_
 by_cases h : s.size < 2
 ·rw [if_pos h, if_pos h]
  exact qKc old s _ _ s _
 ·rw [if_neg h, if_neg h]
  have hv := val2_b s
  exact specRead_l0 old s ho hs s.size (val2 s) [] 2 hv.1 hv.2 (by omega) (by omega) (by simp; omega)
theorem readM_len (old : ByteArray) : ∀ d (n : Int) (out : List OpS) (s : ByteArray), out.length + s.size ≤ 1048576 → (readM old d n out s).1.length ≤ 1048576 := by
 intro d
 have hf : ∀ (out : List OpS) (s : ByteArray), out.length ≤ 1048576 → (fin old out s).1.length ≤ 1048576 := by
  intro out s h
  unfold fin bad
  split
  ·simp
  ·split <;> simp [h]
 induction d with
 | zero => intro n out s h; unfold readM; split; exact hf _ _ (by omega); simp [bad]
 | succ d ih =>
  intro n out s h
  have hext : ∀ a : Nat, 1 ≤ a → a ≤ s.size → (s.extract a s.size).size + 1 ≤ s.size := fun a h1 h2 => by rw [qSb _ _ _ (by omega)]; omega
  unfold readM
  split
  ·exact hf _ _ (by omega)
  split
  ·simp [bad]
  split
  ·split
   ·simp [bad]
   split
   ·simp [bad]
   ·refine ih _ _ _ ?_
    have := hext 5 (by omega) (by omega)
    rw [List.length_append, List.length_singleton]; omega
  ·split
   ·split
    ·simp [bad]
    split
    ·simp [bad]
    ·rename_i h3 hlt
     refine ih _ _ _ ?_
     have hv := val2_b (s.extract 1 s.size)
     have := hext (3 + (val2 (s.extract 1 s.size)).toNat) (by omega) (by omega)
     rw [List.length_append, List.length_singleton]; omega
   ·simp
theorem readOps_len (old s : ByteArray) (hs : s.size ≤ 1048576) : (readOps old s).1.length ≤ 1048576 := by
 unfold readOps
 split
 ·simp [bad]
 ·refine readM_len old _ _ _ _ ?_
  rw [qSb _ _ _ (by omega)]; simp; omega
end Go.Proofs.Ytnhnlfkbngnkpaa.Ops
