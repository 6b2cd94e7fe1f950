/- Plain lemmas on rounds, loops and lists: no program in sight. -/
import Derived.Test.YtafohchkacclpaaWMore
set_option linter.unusedVariables false
set_option linter.unusedSimpArgs false
namespace Go.Proofs.Ytafohchkacclpaa.Tools
open Go.RowKit Go.Proofs.YtafohchkacclpaaW.PrintWords Go.Proofs.YtafohchkacclpaaW.PrintLast Go.Proofs.YtafohchkacclpaaW.PrintMore

theorem w64 {x : Int} (h0 : -9223372036854775808 ≤ x) (h1 : x ≤ 9223372036854775807) : wrap64 x = x := by unfold wrap64; omega

section
variable {α β : Type}
theorem evS {g : Nat → Option α} {r : α} (h : ∀ k, g k = some r) : Ev g r := ⟨0, fun k _ => h k⟩
theorem evC {x : Option α} {r : α} (h : x = some r) : Ev (fun _ => x) r := ⟨0, fun _ _ => h⟩
theorem evPos {c : Prop} [Decidable c] {A B : Nat → Option α} {r : α} (h : c) (k : Ev A r) : Ev (fun n => if c then A n else B n) r := by simp only [if_pos h]; exact k
theorem evNeg {c : Prop} [Decidable c] {A B : Nat → Option α} {r : α} (h : ¬ c) (k : Ev B r) : Ev (fun n => if c then A n else B n) r := by simp only [if_neg h]; exact k
theorem evIte {c : Prop} [Decidable c] {A B : Nat → Option α} {r : α} (k : c → Ev A r) (k' : ¬ c → Ev B r) : Ev (fun n => if c then A n else B n) r := by
  by_cases h : c
  · exact evPos h (k h)
  · exact evNeg h (k' h)
theorem evB {g : Nat → Option α} {f : Nat → α → Option β} {a : α} {r : β} (h : Ev g a) (k : Ev (fun n => f n a) r) : Ev (fun n => (g n).bind (f n)) r := Ev.bind h k
theorem evBS {x : Option α} {f : Nat → α → Option β} {a : α} {r : β} (h : x = some a) (k : Ev (fun n => f n a) r) : Ev (fun n => x.bind (f n)) r := Ev.bind (evC h) k
theorem evSome {a : α} {f : Nat → α → Option β} {r : β} (k : Ev (fun n => f n a) r) : Ev (fun n => (some a).bind (f n)) r := k
theorem evEq {g : Nat → Option α} {r r' : α} (h : Ev g r) (e : r = r') : Ev g r' := e ▸ h
theorem evStep {g f : Nat → Option α} {r : α} (h : ∀ k, g (k + 1) = f k) (k : Ev f r) : Ev g r := Ev.step h k
/-- A loop that counts up to n, with a state. -/
theorem evUp {σ ρ : Type} {n : Nat} {g : σ → Nat → Nat → Option ρ} {R : σ → Nat → ρ} (I : Nat → σ → Prop) (hend : ∀ s, I n s → Ev (g s n) (R s n))
    (hstep : ∀ i s, i < n → I i s → (∀ s', I (i + 1) s' → Ev (g s' (i + 1)) (R s' (i + 1))) → Ev (g s i) (R s i)) : ∀ i s, i ≤ n → I i s → Ev (g s i) (R s i) := by
  intro i s hi
  obtain ⟨d, hd⟩ : ∃ d, n - i = d := ⟨_, rfl⟩
  induction d generalizing i s with
  | zero =>
    obtain rfl : i = n := by omega
    exact hend s
  | succ d ih =>
    intro hI
    exact hstep i s (by omega) hI (fun s' => ih (i + 1) s' (by omega) (by omega))
/-- The same without a state. -/
theorem evUp0 {ρ : Type} {n : Nat} {g : Nat → Nat → Option ρ} {R : Nat → ρ} (hend : Ev (g n) (R n)) (hstep : ∀ i, i < n → Ev (g (i + 1)) (R (i + 1)) → Ev (g i) (R i)) : ∀ i, i ≤ n → Ev (g i) (R i) := by
  intro i hi
  exact evUp (σ := Unit) (g := fun _ => g) (R := fun _ => R) (fun _ _ => True) (fun _ _ => hend) (fun i _ h _ k => hstep i h (k () trivial)) i () hi trivial
end

section
variable {α : Type}
theorem drop_at {l : List α} {i : Nat} (h : i < l.length) (z : α) : l.drop i = l.getD i z :: l.drop (i + 1) := by
  rw [List.drop_eq_getElem_cons h, List.getD_eq_getElem?_getD, List.getElem?_eq_getElem h]; rfl
theorem getD_mem {l : List α} {i : Nat} (h : i < l.length) (z : α) : l.getD i z ∈ l := by
  rw [List.getD_eq_getElem?_getD, List.getElem?_eq_getElem h]; exact List.getElem_mem h
theorem getD_map {β : Type} {l : List α} {i : Nat} (h : i < l.length) (z : α) (f : α → β) (y : β) : (l.map f).getD i y = f (l.getD i z) := by
  simp [List.getD_eq_getElem?_getD, List.getElem?_eq_getElem h]
theorem set_take_drop {l : List α} {i : Nat} (h : i < l.length) (a b : List α) (x y : α) (hl : l = a ++ y :: b) (ha : a.length = i) : l.set i x = a ++ x :: b := by
  subst hl; subst ha; simp
end
theorem bytes_eq_iff {a b : ByteArray} : a.toList = b.toList ↔ a = b := by
  constructor
  · intro h
    rw [ByteArray.toList_eq, ByteArray.toList_eq] at h
    exact ByteArray.ext (Array.toList_inj.1 h)
  · rintro rfl; rfl
theorem size_toList (a : ByteArray) : a.toList.length = a.size := by
  rw [ByteArray.toList_eq]; rfl
theorem toList_nil_iff {a : ByteArray} : a.toList = ([] : List UInt8) ↔ a.size = 0 := by
  rw [← size_toList]; exact List.length_eq_zero_iff.symm
theorem wf_i64 {x : Int} (h : (Lit.int .i64 x).wf = true) : -9223372036854775808 ≤ x ∧ x ≤ 9223372036854775807 := by
  simpa [Lit.wf, IntKind.min, IntKind.max, IntKind.signed, IntKind.bits] using h
end Go.Proofs.Ytafohchkacclpaa.Tools
