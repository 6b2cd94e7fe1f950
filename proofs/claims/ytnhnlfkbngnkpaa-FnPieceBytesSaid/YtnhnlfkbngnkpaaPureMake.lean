/- How data are made of pieces: a plain model, and that program and reference both answer it. -/
import Derived.Test.YtnhnlfkbngnkpaaE10
import Derived.Test.YtnhnlfkbngnkpaaE9
import Derived.Test.YtnhnlfkbngnkpaaPureOps2
set_option linter.unusedVariables false
set_option linter.unusedSimpArgs false
namespace Go.Proofs.Ytnhnlfkbngnkpaa.Ops
open Go.RowKit Go.Proofs.YtnhnlfkbngnkpaaW.PrintWords Go.Proofs.YtnhnlfkbngnkpaaW.PrintLast Go.Proofs.YtnhnlfkbngnkpaaW.PrintMore Go.Proofs.Ytnhnlfkbngnkpaa.Tools Go.Proofs.Ytnhnlfkbngnkpaa.E

/-- How many bytes of s, from n on, stand in old from i + n on. -/
def cnt (old s : ByteArray) (i : Nat) : Nat → Nat → Nat
 | 0, n => n
 | d + 1, n => if i + n < old.size ∧ bt old ((i + n : Nat) : Int) = bt s (n : Int) then cnt old s i d (n + 1) else n
theorem cnt_le (old s : ByteArray) (i : Nat) : ∀ d n, n ≤ cnt old s i d n ∧ cnt old s i d n ≤ n + d ∧ (n < cnt old s i d n → i + cnt old s i d n ≤ old.size)
 | 0, n => by unfold cnt; omega
 | d + 1, n => by
  unfold cnt
  split
  ·rename_i h
   have := cnt_le old s i d (n + 1)
   refine ⟨by omega, by omega, fun _ => ?_⟩
   by_cases h2 : n + 1 < cnt old s i d (n + 1)
   ·exact this.2.2 h2
   ·have : cnt old s i d (n + 1) = n + 1 := by omega
    omega
  ·omega
def longM (old s : ByteArray) : Nat → Nat → Nat → Nat → Nat × Nat
 | 0, _, f, m => (f, m)
 | d + 1, i, f, m => if cnt old s i s.size 0 > m then longM old s d (i + 1) i (cnt old s i s.size 0) else longM old s d (i + 1) f m
theorem longM_le (old s : ByteArray) : ∀ d i f m, m ≤ s.size → f + m ≤ old.size → (longM old s d i f m).2 ≤ s.size ∧ (longM old s d i f m).1 + (longM old s d i f m).2 ≤ old.size
 | 0, i, f, m, h, h2 => ⟨h, h2⟩
 | d + 1, i, f, m, h, h2 => by
  unfold longM
  have := cnt_le old s i s.size 0
  split
  ·exact longM_le old s d (i + 1) _ _ (by omega) (by have := this.2.2 (by omega); omega)
  ·exact longM_le old s d (i + 1) _ _ h h2
def longest (old s : ByteArray) : Nat × Nat := longM old s old.size 0 0 0
theorem longest_le (old s : ByteArray) : (longest old s).2 ≤ s.size ∧ (longest old s).1 + (longest old s).2 ≤ old.size := longM_le old s _ _ _ _ (by omega) (by omega)

section
variable (old s : ByteArray) (ho : old.size ≤ 1048576) (hs : s.size ≤ 1048576)
include ho hs
theorem specLong_l1 (i : Nat) (hi : i < old.size) (f m : Nat) (R : Int × Int) : ∀ d n, n + d = s.size →
  (∀ N, N = cnt old s i d n → Ev (fun k => if (N : Int) > (m : Int) then qab.l0 k old s (i : Int) (N : Int) (old.size : Int) (wrap64 ((i : Int) + 1)) else qab.l0 k old s (f : Int) (m : Int) (old.size : Int) (wrap64 ((i : Int) + 1))) R) →
  Ev (fun k => qab.l1 k old s (f : Int) (m : Int) (i : Int) (n : Int) (old.size : Int) (i : Int)) R := by
 intro d
 induction d with
 | zero =>
  intro n hn hk
  refine qV (fun k => by rw [qab.l1]) ?_
  exact qP (by omega) (hk n (by unfold cnt; rfl))
 | succ d ih =>
  intro n hn hk
  have hw : wrap64 ((i : Int) + (n : Int)) = ((i + n : Nat) : Int) := by rw [w64 (by omega) (by omega)]; simp
  have hn1 : wrap64 ((n : Int) + 1) = ((n + 1 : Nat) : Int) := by rw [w64 (by omega) (by omega)]; simp
  refine qV (fun k => by rw [qab.l1]) ?_
  refine qA (by omega) ?_
  simp only [hw, hn1]
  by_cases h1 : i + n < old.size
  ·refine qA (by omega) (qA (by omega) (qA (by omega) ?_))
   by_cases h2 : bt old ((i + n : Nat) : Int) = bt s (n : Int)
   ·refine qA h2 (ih (n + 1) (by omega) (fun N hN => hk N ?_))
    rw [hN]; conv => rhs; unfold cnt
    rw [if_pos ⟨h1, h2⟩]
   ·refine qP h2 (hk n ?_)
    unfold cnt; rw [if_neg (fun h => h2 h.2)]
  ·refine qP (by omega) (hk n ?_)
   unfold cnt; rw [if_neg (fun h => h1 h.1)]
theorem specLong_l0 : ∀ d i f m, i + d = old.size → Ev (fun k => qab.l0 k old s (f : Nat) (m : Nat) (old.size : Int) (i : Nat)) (((longM old s d i f m).1 : Int), ((longM old s d i f m).2 : Int)) := by
 intro d
 induction d with
 | zero =>
  intro i f m hi
  refine qV (fun k => by rw [qab.l0]) ?_
  exact qP (by omega) (Ev.now _)
 | succ d ih =>
  intro i f m hi
  have hi1 : wrap64 ((i : Int) + 1) = ((i + 1 : Nat) : Int) := by rw [w64 (by omega) (by omega)]; simp
  refine qV (fun k => by rw [qab.l0]) ?_
  refine qA (by omega) (specLong_l1 old s ho hs i (by omega) f m _ s.size 0 (by omega) ?_)
  intro N hN
  rw [hi1]
  unfold longM
  rw [← hN]
  by_cases h : N > m
  ·rw [if_pos h]; exact qA (by omega) (ih (i + 1) i N (by omega))
  ·rw [if_neg h]; exact qP (by omega) (ih (i + 1) f m (by omega))
theorem specLongest : Ev (fun k => qab.f k old s) (((longest old s).1 : Int), ((longest old s).2 : Int)) := by
 unfold qab.f
 exact specLong_l0 old s ho hs old.size 0 0 0 (by omega)
end

/-! ### the ops -/
def lastNew (out : List OpS) : Prop := out.length ≠ 0 ∧ (out.getD (out.length - 1) z).f0 = 2
instance (out : List OpS) : Decidable (lastNew out) := by unfold lastNew; infer_instance
def putData (o : OpS) (b : ByteArray) : OpS := ⟨o.f0, o.f1, o.f2, o.f3 ++ b⟩
def addNew (out : List OpS) (b : ByteArray) : List OpS := if lastNew out then out.set (out.length - 1) (putData (out.getD (out.length - 1) z) b) else out ++ [⟨2, 0, 0, b⟩]
def makeM (old : ByteArray) (least : Int) : Nat → ByteArray → List OpS → List OpS
 | 0, _, out => out
 | d + 1, s, out => if s.size = 0 then out else if ((longest old s).2 : Int) ≥ least then makeM old least d (s.extract (longest old s).2 s.size) (out ++ [⟨1, (longest old s).1, (longest old s).2, ⟨#[]⟩⟩]) else makeM old least d (s.extract 1 s.size) (addNew out (s.extract 0 1))
theorem addNew_len (out : List OpS) (b : ByteArray) : (addNew out b).length ≤ out.length + 1 := by
 unfold addNew; split <;> simp
/-- What is known of ops that are being made, with n bytes yet to come. -/
def Mk (out : List OpS) (n : Nat) : Prop := out.length + n ≤ 300 ∧ ∀ o ∈ out, o.f3.size + n ≤ 300
theorem Mk.add {out : List OpS} {n : Nat} {b : ByteArray} (h : Mk out (n + 1)) (hb : b.size = 1) : Mk (addNew out b) n := by
 refine ⟨by have := addNew_len out b; have := h.1; omega, ?_⟩
 unfold addNew
 split
 ·rename_i hl
  intro o ho
  rcases List.mem_or_eq_of_mem_set ho with ho | rfl
  ·have := h.2 o ho; omega
  ·have := h.2 _ (qoc (by have := hl.1; omega : out.length - 1 < out.length) z)
   show (_ ++ b).size + n ≤ 300
   rw [ByteArray.size_append]; omega
 ·intro o ho
  rcases List.mem_append.1 ho with ho | ho
  ·have := h.2 o ho; omega
  ·rw [List.mem_singleton.1 ho]; have := h.1; show b.size + n ≤ 300; omega
theorem Mk.copy {out : List OpS} {n m : Nat} (h : Mk out n) (hm : m < n) (f : Int) (g : Int) : Mk (out ++ [⟨1, f, g, ⟨#[]⟩⟩]) m := by
 refine ⟨by have := h.1; simp; omega, ?_⟩
 intro o ho
 rcases List.mem_append.1 ho with ho | ho
 ·have := h.2 o ho; omega
 ·rw [List.mem_singleton.1 ho]; have := h.1; show (⟨#[]⟩ : ByteArray).size + m ≤ 300; have : (⟨#[]⟩ : ByteArray).size = 0 := rfl; omega
theorem size_ext (s : ByteArray) (a b : Nat) (h : b ≤ s.size) : (s.extract a b).size = b - a := by rw [ByteArray.size_extract]; omega
theorem ext_ext (x : ByteArray) (a m : Nat) (ha : a + m ≤ x.size) : (x.extract a x.size).extract m (x.extract a x.size).size = x.extract (a + m) x.size := by
 rw [ByteArray.extract_extract, size_ext _ _ _ (by omega)]; congr 1; omega
theorem ext_one (x : ByteArray) (a : Nat) (ha : a < x.size) : (x.extract a x.size).extract 0 1 = x.extract a (a + 1) := by
 rw [ByteArray.extract_extract]; congr 1; omega
/-- A byte that comes to an op of its own. -/
theorem specMake_new (old x : ByteArray) (hx : x.size ≤ 300) (least : Int) (a : Nat) (ha : a < x.size) (out : List OpS) (r : List OpS × Bool) (n : Int) (hn : n = (out.length : Int))
  (hk : Ev (fun k => qS.l0 k old x least (out ++ [⟨2, 0, 0, x.extract a (a + 1)⟩]) ((a + 1 : Nat) : Int)) r) :
  Ev (fun k => (some (out ++ [(⟨2, 0, 0, (⟨#[]⟩ : ByteArray)⟩ : OpS)] : List OpS)).bind fun y => (if 0 ≤ n then (if n < (y.length : Int) then (if (a : Int) ≤ ((a + 1 : Nat) : Int) then (if ((a + 1 : Nat) : Int) ≤ (x.size : Int) then (if ((qc y n).f3).size + (x.extract a (a + 1)).size ≤ 9223372036854775807 then (qS.l0 k old x least (y.set n.toNat (⟨(qc y n).f0, (qc y n).f1, (qc y n).f2, ((qc y n).f3) ++ (x.extract a (a + 1))⟩ : OpS)) ((a + 1 : Nat) : Int)) else (none)) else (none)) else (none)) else (none)) else (none))) r := by
 have hg : qc (out ++ [(⟨2, 0, 0, (⟨#[]⟩ : ByteArray)⟩ : OpS)]) n = ⟨2, 0, 0, ⟨#[]⟩⟩ := by rw [hn, rd_op]; simp [List.getD_eq_getElem?_getD]
 have he : (⟨#[]⟩ : ByteArray) ++ x.extract a (a + 1) = x.extract a (a + 1) := ByteArray.empty_append
 have hz0 : (⟨#[]⟩ : ByteArray).size = 0 := rfl
 have hb1 : (x.extract a (a + 1)).size = 1 := by rw [size_ext _ _ _ (by omega)]; omega
 have HB1 := qb.mk hb1
 clear hb1
 have hset : (out ++ [(⟨2, 0, 0, (⟨#[]⟩ : ByteArray)⟩ : OpS)]).set n.toNat ⟨2, 0, 0, x.extract a (a + 1)⟩ = out ++ [⟨2, 0, 0, x.extract a (a + 1)⟩] := by rw [hn, Int.toNat_natCast]; simp
 have hlen : n < ((out ++ [(⟨2, 0, 0, (⟨#[]⟩ : ByteArray)⟩ : OpS)]).length : Int) := by rw [List.length_append, List.length_singleton]; omega
 refine evSome ?_
 refine qA (by omega) (qA hlen (qA (by omega) (qA (by omega) (qA ?_ ?_))))
 ·rw [hg, HB1.out]; show (⟨#[]⟩ : ByteArray).size + 1 ≤ _; rw [hz0]; decide
 ·simp only [hg, he, hset]; exact hk
theorem specMake_l0 (old x : ByteArray) (ho : old.size ≤ 300) (hx : x.size ≤ 300) (least : Int) (hle : 1 ≤ least) : ∀ d (a : Nat) (out : List OpS), a ≤ x.size → x.size - a ≤ d → Mk out (x.size - a) →
  Ev (fun k => qS.l0 k old x least out (a : Int)) (makeM old least d (x.extract a x.size) out, true) := by
 intro d
 induction d with
 | zero =>
  intro a out ha hd hm
  refine qV (fun k => by rw [qS.l0]) ?_
  exact qP (by omega) (Ev.now _)
 | succ d ih =>
  intro a out ha hd hm
  refine qV (fun k => by rw [qS.l0]) ?_
  unfold makeM
  have hsz : (x.extract a x.size).size = x.size - a := size_ext _ _ _ (by omega)
  by_cases h0 : a = x.size
  ·rw [if_pos (by omega)]; exact qP (by omega) (Ev.now _)
  rw [if_neg (by omega)]
  refine qA (by omega) (qA (by omega) (qA (by omega) ?_))
  rw [Int.toNat_natCast]
  refine evB (specLongest old _ (by omega) (by omega)) ?_
  obtain ⟨hL, hL2⟩ := longest_le old (x.extract a x.size)
  rw [hsz] at hL
  clear hsz
  have h300 := hm.1
  generalize longest old (x.extract a x.size) = L at hL hL2 ⊢
  by_cases hge : (L.2 : Int) ≥ least
  ·rw [if_pos hge, ext_ext x a L.2 (by omega)]
   refine qA hge (qA (by omega) ?_)
   have hw : wrap64 ((a : Int) + (L.2 : Int)) = ((a + L.2 : Nat) : Int) := by rw [w64 (by omega) (by omega)]; simp
   rw [hw]
   clear hw
   dsimp only
   exact ih (a + L.2) (out ++ [⟨1, (L.1 : Int), (L.2 : Int), ⟨#[]⟩⟩]) (by omega) (by omega) (hm.copy (by omega) _ _)
  ·rw [if_neg hge, ext_ext x a 1 (by omega), ext_one x a (by omega)]
   have hb1 : (x.extract a (a + 1)).size = 1 := by rw [size_ext _ _ _ (by omega)]; omega
   have hk : Ev (fun k => qS.l0 k old x least (addNew out (x.extract a (a + 1))) ((a + 1 : Nat) : Int)) (makeM old least d (x.extract (a + 1) x.size) (addNew out (x.extract a (a + 1))), true) :=
    ih (a + 1) (addNew out (x.extract a (a + 1))) (by omega) (by omega) (Mk.add (by rw [show x.size - (a + 1) + 1 = x.size - a by omega]; exact hm) hb1)
   have HB1 := qb.mk hb1
   clear hb1
   have ha1 : wrap64 ((a : Int) + 1) = ((a + 1 : Nat) : Int) := by rw [w64 (by omega) (by omega)]; simp
   have hll : wrap64 (wrap64 ((out.length : Int) + 1) - 1) = ((out.length : Nat) : Int) := by rw [w64 (x := (out.length : Int) + 1) (by omega) (by omega), w64 (by omega) (by omega)]; omega
   refine qP hge ?_
   simp only [ha1, hll]
   clear ha1 hll
   rw [Int.toNat_natCast, Int.toNat_natCast]
   by_cases hl : out.length = 0
   ·refine qA (by omega) (qA (by omega) ?_)
    have hadd : addNew out (x.extract a (a + 1)) = out ++ [⟨2, 0, 0, x.extract a (a + 1)⟩] := by unfold addNew; rw [if_neg (fun h => h.1 hl)]
    rw [hadd] at hk ⊢
    exact specMake_new old x hx least a (by omega) out _ _ rfl hk
   ·have hw : wrap64 ((out.length : Int) - 1) = ((out.length - 1 : Nat) : Int) := by rw [w64 (by omega) (by omega)]; omega
    refine qP (by omega) ?_
    rw [hw]
    clear hw
    refine qA (by omega) (qA (by omega) ?_)
    by_cases h2 : (out.getD (out.length - 1) z).f0 = 2
    ·have hadd : addNew out (x.extract a (a + 1)) = out.set (out.length - 1) (putData (out.getD (out.length - 1) z) (x.extract a (a + 1))) := by unfold addNew; rw [if_pos ⟨hl, h2⟩]
     have hb := hm.2 _ (qoc (by omega : out.length - 1 < out.length) z)
     rw [hadd] at hk ⊢
     rw [rd_op, Int.toNat_natCast]
     refine qA h2 (qA (by omega) (qA (by omega) (qA (by rw [HB1.out]; omega) ?_)))
     exact hk
    ·refine qP h2 (qA (by omega) ?_)
     have hadd : addNew out (x.extract a (a + 1)) = out ++ [⟨2, 0, 0, x.extract a (a + 1)⟩] := by unfold addNew; rw [if_neg (fun h => h2 h.2)]
     rw [hadd] at hk ⊢
     exact specMake_new old x hx least a (by omega) out _ _ rfl hk
def makeOps (old s : ByteArray) (least : Int) : List OpS × Bool := if old.size ≤ 300 ∧ s.size ≤ 300 ∧ 1 ≤ least ∧ least ≤ 300 then (makeM old least s.size s [], true) else ([], false)
theorem Mk_nil {n : Nat} (h : n ≤ 300) : Mk [] n := ⟨by simpa using h, fun o ho => by cases ho⟩
theorem specMakeOps (old s : ByteArray) (least : Int) : Ev (fun k => qS.f k old s least) (makeOps old s least) := by
 unfold qS.f makeOps
 have hj : ∀ b : Bool, b = decide (¬ (old.size ≤ 300 ∧ s.size ≤ 300 ∧ 1 ≤ least ∧ least ≤ 300)) → Ev (fun k => qS.j0 k old s least b) (if old.size ≤ 300 ∧ s.size ≤ 300 ∧ 1 ≤ least ∧ least ≤ 300 then (makeM old least s.size s [], true) else ([], false)) := by
  rintro b rfl
  refine qV (fun k => by rw [qS.j0]) ?_
  by_cases h : old.size ≤ 300 ∧ s.size ≤ 300 ∧ 1 ≤ least ∧ least ≤ 300
  ·rw [if_pos h]
   refine qP (by simp [h]) (evEq (specMake_l0 old s h.1 h.2.1 least h.2.2.1 s.size 0 [] (by omega) (by omega) (Mk_nil (by omega))) ?_)
   rw [ByteArray.extract_zero_size]
  ·rw [if_neg h]
   exact qA (by rw [decide_eq_true_eq]; exact h) (Ev.now _)
 simp only [qGb.f, l1In, Option.bind_some, decide_eq_true_eq]
 refine evIte (fun h1 => evIte (fun h2 => hj _ ?_) (fun h2 => hj _ ?_)) (fun h1 => hj _ ?_)
 ·rw [← decide_not, decide_eq_decide]; omega
 ·rw [eq_comm, decide_eq_true_eq]; omega
 ·rw [eq_comm, decide_eq_true_eq]; omega
end Go.Proofs.Ytnhnlfkbngnkpaa.Ops
