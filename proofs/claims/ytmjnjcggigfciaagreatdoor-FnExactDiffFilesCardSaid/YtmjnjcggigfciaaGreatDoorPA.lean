import Derived.Test.YtmjnjcggigfciaaGreatDoorE1
import Derived.Test.YtmjnjcggigfciaaGreatDoorE2
import Derived.Test.YtmjnjcggigfciaaGreatDoorE3
import Derived.Test.YtmjnjcggigfciaaGreatDoorE4
import Derived.Lib.IndexAny
set_option linter.unusedVariables false
set_option linter.unusedSimpArgs false
set_option linter.unusedSectionVars false
namespace Go.Abs
open Go
def tot {α : Type} (f : α → Nat) : List α → Nat
  | [] => 0
  | x :: r => f x + tot f r
theorem tot_cons {α : Type} (f : α → Nat) (x : α) (r : List α) : tot f (x :: r) = f x + tot f r := rfl
theorem tot_mem {α : Type} (f : α → Nat) : ∀ {l : List α} {x : α}, x ∈ l → f x ≤ tot f l
  | y :: l, x, h => by
    rw [tot_cons]
    rcases List.mem_cons.1 h with rfl | h
    · omega
    · have := tot_mem f h; omega
theorem tot_le {α : Type} (f : α → Nat) (M : Nat) : ∀ {l : List α}, (∀ x ∈ l, f x ≤ M) → tot f l ≤ l.length * M
  | [], _ => by simp [tot]
  | y :: l, h => by
    have h1 := h y (by simp)
    have h2 := tot_le f M (l := l) fun x hx => h x (by simp [hx])
    rw [tot_cons, List.length_cons, Nat.succ_mul]; omega
theorem tot_mono {α : Type} (f g : α → Nat) (h : ∀ x, f x ≤ g x) : ∀ l : List α, tot f l ≤ tot g l
  | [] => Nat.le_refl _
  | y :: l => by
    have h1 := h y
    have h2 := tot_mono f g h l
    rw [tot_cons, tot_cons]; omega
theorem tot_seven {α : Type} (f g : α → Nat) (h : ∀ x, f x ≤ 7 + 8 * g x) : ∀ l : List α, l.length + tot f l ≤ 8 * (l.length + tot g l)
  | [] => by simp [tot]
  | y :: l => by
    have h1 := h y
    have h2 := tot_seven f g h l
    rw [tot_cons, tot_cons, List.length_cons]; omega
/-- what is left, or that it is too much -/
def szR (n : Nat) (left : Int) : Int := if (n : Int) ≤ left then left - n else -1
theorem szR_neg {n : Nat} {left : Int} (h : ¬ (n : Int) ≤ left) : szR n left = -1 := if_neg h
theorem szR_pos {n : Nat} {left : Int} (h : (n : Int) ≤ left) : szR n left = left - n := if_pos h
theorem szR_lt (n : Nat) (left : Int) (h0 : 0 ≤ left) : szR n left < 0 ↔ ¬ (n : Int) ≤ left := by
  unfold szR; split <;> omega
theorem szR_le (n : Nat) (left : Int) (h0 : 0 ≤ left) : szR n left ≤ left := by
  unfold szR; split <;> omega
theorem szR_add (n m : Nat) (left : Int) : (bif decide (szR n left < 0) then (some (-1) : Option Int) else some (szR m (szR n left))) = some (szR (n + m) left) := by
  by_cases h : (n : Int) ≤ left
  · rw [szR_pos h, bifF (by omega)]
    unfold szR
    congr 1
    split <;> split <;> omega
  · rw [szR_neg h, bifT (by omega), szR_neg (by omega)]
/-- the size of a string, off what is left -/
theorem szLeaf (s : Nat) (left : Int) (hs : s ≤ 140737488351232) (h0 : 0 ≤ left) (h1 : left ≤ 1048576) {β : Type} (f : Int → β) (g : β) :
    (bif decide (w64 (left - (s : Int)) < 0) then g else f (w64 (left - (s : Int)))) = (bif decide (szR s left < 0) then g else f (szR s left)) := by
  rw [w64_id (by omega) (by omega)]
  by_cases h : (s : Int) ≤ left
  · rw [szR_pos h]
  · rw [szR_neg h, bifT (by omega), bifT (by omega)]
theorem szGo {α : Type} (d : α) (m : α → Nat) (a : List α) (L : Int → Int → Option Int)
    (h0 : ∀ left, L left (a.length : Int) = some left)
    (hs : ∀ i left, i < a.length → 0 ≤ left → left ≤ 1048576 → L left (i : Int) = bif decide (szR (m (a.getD i d)) left < 0) then some (-1) else L (szR (m (a.getD i d)) left) ((i + 1 : Nat) : Int))
    (left : Int) (h1 : 0 ≤ left) (h2 : left ≤ 1048576) : L left 0 = some (szR (tot m a) left) := by
  have key : ∀ i, i ≤ a.length → ∀ left : Int, 0 ≤ left → left ≤ 1048576 → L left (i : Int) = some (szR (tot m (a.drop i)) left) := by
    apply downTo
    · intro left h1 h2
      rw [h0, List.drop_eq_nil_of_le (by omega)]
      show _ = some (szR 0 left)
      rw [szR_pos (by omega)]; simp
    · intro i hi ih left h1 h2
      rw [hs i left hi h1 h2, drop_at hi d, tot_cons]
      by_cases h : ((m (a.getD i d) : Nat) : Int) ≤ left
      · rw [szR_pos h, bifF (by omega), ih _ (by omega) (by omega)]
        unfold szR; congr 1
        split <;> split <;> omega
      · rw [szR_neg h, bifT (by omega), szR_neg (by omega)]
  have := key 0 (by omega) left h1 h2
  rw [List.drop_zero] at this
  exact this
/-- the list's own length off, then the elements -/
theorem szTop {n m : Nat} {left : Int} (hn : n ≤ 140737488351232) (h0 : 0 ≤ left) (h1 : left ≤ 1048576) (L : Int → Option Int) (hL : ∀ l, 0 ≤ l → l ≤ 1048576 → L l = some (szR m l)) :
    (bif decide (w64 (left - (n : Int)) < 0) then (some (-1)) else L (w64 (left - (n : Int)))) = some (szR (n + m) left) := by
  rw [w64_id (by omega) (by omega)]
  by_cases h : (n : Int) ≤ left
  · rw [bifF (by omega), hL _ (by omega) (by omega)]
    unfold szR; congr 1
    split <;> split <;> omega
  · rw [bifT (by omega), szR_neg (by omega)]
theorem toGo {α : Type} (d : α) (a : List α) (L : List α → Int → Option (List α))
    (h0 : ∀ out, L out (a.length : Int) = some out)
    (hs : ∀ i out, i < a.length → out.length = a.length → L out (i : Int) = L (out.set i (a.getD i d)) ((i + 1 : Nat) : Int))
    (out : List α) (hl : out.length = a.length) : L out 0 = some a := by
  have key : ∀ i, i ≤ a.length → ∀ out : List α, out.length = a.length → (∀ j, j < i → out.getD j d = a.getD j d) → L out (i : Int) = some a := by
    apply downTo
    · intro out hl ho
      rw [h0, list_ext_getD d hl fun i hi => ho i (by omega)]
    · intro i hi ih out hl ho
      rw [hs i out hi hl]
      refine ih _ (by simpa using hl) fun j hj => ?_
      by_cases hji : j = i
      · subst hji; exact set_same (by omega) _ _
      · rw [set_else (by omega)]; exact ho j (by omega)
  exact key 0 (by omega) out hl (by omega)
theorem eqGo {n : Nat} (L : Int → Option Bool) (h0 : L (n : Int) = some true) (hs : ∀ i, i < n → L (i : Int) = L ((i + 1 : Nat) : Int)) : L 0 = some true := by
  have key : ∀ i, i ≤ n → L (i : Int) = some true := by
    refine downTo (P := fun i => L (i : Int) = some true) h0 ?_
    intro i hi ih
    exact (hs i hi).trans ih
  exact key 0 (by omega)
def mkL {α : Type} (c : α → Nat) (mkE : α → Int → α) : List α → Int → List α
  | [], _ => []
  | x :: r, k => mkE x k :: mkL c mkE r (k + c x)
theorem mkL_len {α : Type} (c : α → Nat) (mkE : α → Int → α) : ∀ (l : List α) (k : Int), (mkL c mkE l k).length = l.length
  | [], _ => rfl
  | _ :: r, k => by simp [mkL, mkL_len c mkE r]
theorem in0 (n : Nat) : decide (0 ≤ (n : Int)) = true := decide_eq_true (by omega)
theorem inMid2 (n m : Nat) : decide ((n : Int) < ((n + (m + 1) : Nat) : Int)) = true := decide_eq_true (by omega)
theorem markGo {α : Type} (P : α → Prop) (c : α → Nat) (mkE : α → Int → α) (L : List α → Int → Int → Option (Int × List α))
    (h0 : ∀ a k, L a k (a.length : Int) = some (k, a))
    (hs : ∀ (pre : List α) (x : α) (r : List α) (k : Int), P x → 0 ≤ k → k + c x ≤ 8796093022208 → pre.length + (r.length + 1) ≤ 4398046511104 → L (pre ++ x :: r) k (pre.length : Int) = L (pre ++ mkE x k :: r) (k + c x) ((pre.length + 1 : Nat) : Int)) :
    ∀ (rest pre : List α) (k : Int), (∀ x ∈ rest, P x) → 0 ≤ k → k + tot c rest ≤ 8796093022208 → pre.length + rest.length ≤ 4398046511104 → L (pre ++ rest) k (pre.length : Int) = some (k + tot c rest, pre ++ mkL c mkE rest k) := by
  intro rest
  induction rest with
  | nil =>
    intro pre k _ _ _ _
    have := h0 pre k
    rw [List.append_nil, this]; simp [tot, mkL]
  | cons x r ih =>
    intro pre k hp hk hb hl
    rw [tot_cons] at hb
    rw [List.length_cons] at hl
    rw [hs pre x r k (hp x (by simp)) hk (by omega) (by omega)]
    have := ih (pre ++ [mkE x k]) (k + c x) (fun y hy => hp y (by simp [hy])) (by omega) (by omega) (by simp; omega)
    simp only [List.length_append, List.length_cons, List.length_nil, List.append_assoc, List.cons_append, List.nil_append, Nat.zero_add] at this
    rw [this, tot_cons, mkL]
    simp only [Option.some.injEq, Prod.mk.injEq, and_true]
    omega
theorem heldGo {α : Type} (P : α → Prop) (c : α → Nat) (mkE : α → Int → α) (full : List α) (L : Int → Int → Option Int)
    (h0 : ∀ k, L k (full.length : Int) = some k)
    (hs : ∀ (pre : List α) (x : α) (r : List α) (k : Int), full = pre ++ mkE x k :: r → P x → 0 ≤ k → k + c x ≤ 8796093022208 → pre.length + (r.length + 1) ≤ 4398046511104 → L k (pre.length : Int) = L (k + c x) ((pre.length + 1 : Nat) : Int)) :
    ∀ (rest pre : List α) (k : Int), full = pre ++ mkL c mkE rest k → (∀ x ∈ rest, P x) → 0 ≤ k → k + tot c rest ≤ 8796093022208 → pre.length + rest.length ≤ 4398046511104 → L k (pre.length : Int) = some (k + tot c rest) := by
  intro rest
  induction rest with
  | nil =>
    intro pre k hf _ _ _ _
    have hf2 : full = pre := by rw [hf]; simp [mkL]
    rw [← hf2, h0]; simp [tot]
  | cons x r ih =>
    intro pre k hf hp hk hb hl
    rw [tot_cons] at hb
    rw [List.length_cons] at hl
    rw [hs pre x (mkL c mkE r (k + c x)) k hf (hp x (by simp)) hk (by omega) (by rw [mkL_len]; omega)]
    have := ih (pre ++ [mkE x k]) (k + c x) (by rw [hf]; simp [mkL]) (fun y hy => hp y (by simp [hy])) (by omega) (by omega) (by simp; omega)
    simp only [List.length_append, List.length_cons, List.length_nil, Nat.zero_add] at this
    rw [this, tot_cons]
    simp only [Option.some.injEq]
    omega
end Go.Abs
