/- What the drawing functions come to: they answer, and their numbers lie within bounds. -/
import Derived.Laws.BitsLemmas
import Derived.Test.YtnhnlfkbngnkpaaE11
import Derived.Test.YtnhnlfkbngnkpaaTools
set_option linter.unusedVariables false
set_option linter.unusedSimpArgs false
namespace Go.Proofs.Ytnhnlfkbngnkpaa.Draw
open Go.RowKit Go.Proofs.YtnhnlfkbngnkpaaW.PrintWords Go.Proofs.YtnhnlfkbngnkpaaW.PrintLast Go.Proofs.YtnhnlfkbngnkpaaW.PrintMore Go.Proofs.Ytnhnlfkbngnkpaa.Tools Go.Proofs.Ytnhnlfkbngnkpaa.E

/-- A code: bytes, not too many. -/
def Code (l : List Int) : Prop := l.length ≤ 1048576 ∧ ∀ x ∈ l, 0 ≤ x ∧ x ≤ 255
theorem wf_u8 {x : Int} (h : (Lit.int .u8 x).wf = true) : 0 ≤ x ∧ x ≤ 255 := by
 simpa [Lit.wf, IntKind.min, IntKind.max, IntKind.signed, IntKind.bits] using h
theorem and255 (x : Int) (h0 : 0 ≤ x) (h1 : x < 16777216) : 0 ≤ Go.bits .and .u64 x 255 ∧ Go.bits .and .u64 x 255 ≤ 255 := by
 have h := bits_mask .u64 24 (by decide) (fun n h0 h1 => by simp [IntKind.wrap, IntKind.bits, IntKind.signed]; omega) 8 (by decide) x h0 (by omega)
 have h2 : Go.bits .and .u64 x 255 = x % 2 ^ 8 := h
 rw [h2]; omega
theorem wrapu64 (x : Int) : 0 ≤ IntKind.u64.wrap x ∧ IntKind.u64.wrap x < 18446744073709551616 := by
 simp only [IntKind.wrap, IntKind.bits, IntKind.signed]
 constructor
 ·simp; omega
 ·simp; omega
theorem next (l : List Int) (hl : Code l) (a s : Int) (ha : 0 ≤ a) (ha2 : a ≤ 1000000000000) : ∃ v s', qjc.f l a s = some (v, a + 1, s') ∧ 0 ≤ v ∧ v ≤ 255 := by
 have hw : wrap64 (a + 1) = a + 1 := w64 (by omega) (by omega)
 unfold qjc.f
 rw [hw]
 clear hw
 have hseed : ∀ y : Int, ∃ v, wrap64 (Go.bits .and .u64 ((IntKind.u64.wrap y) / 1099511627776) 255) = v ∧ 0 ≤ v ∧ v ≤ 255 := by
  intro y
  have := wrapu64 y
  have h := and255 (IntKind.u64.wrap y / 1099511627776) (by omega) (by omega)
  exact ⟨_, w64 (by omega) (by omega), h⟩
 by_cases h : a < (l.length : Int)
 ·have hm : rd l a ∈ l := qoc (by omega) 0
  have hb := hl.2 _ hm
  have hv : wrap64 (rd l a) = rd l a := w64 (by omega) (by omega)
  rw [if_pos h, if_pos ha, hv]
  by_cases h2 : a + 1 ≤ (l.length : Int)
  ·rw [if_pos h2]; exact ⟨_, _, rfl, hb.1, hb.2⟩
  ·rw [if_neg h2]
   obtain ⟨v, e, h0, h1⟩ := hseed ((IntKind.u64.wrap ((IntKind.u64.wrap (s * 6364136223846793005)) + (IntKind.u64.wrap (rd l a)))) + 1442695040888963407)
   exact ⟨v, _, by rw [e], h0, h1⟩
 ·rw [if_neg h]
  by_cases h2 : a + 1 ≤ (l.length : Int)
  ·rw [if_pos h2]; exact ⟨_, _, rfl, by omega, by omega⟩
  ·rw [if_neg h2]
   obtain ⟨v, e, h0, h1⟩ := hseed ((IntKind.u64.wrap (IntKind.u64.wrap (s * 6364136223846793005))) + 1442695040888963407)
   exact ⟨v, _, by rw [e], h0, h1⟩
/-- A number from 0 to n - 1 (0 where n is 1 or less); the place goes on by two at most. -/
theorem pick (l : List Int) (hl : Code l) (a s n : Int) (ha : 0 ≤ a) (ha2 : a ≤ 100000000000) : ∃ v a' s', qK.f l a s n = some (v, a', s') ∧ 0 ≤ v ∧ (v < n ∨ n ≤ 1 ∧ v = 0) ∧ a ≤ a' ∧ a' ≤ a + 2 := by
 unfold qK.f
 by_cases h : n ≤ 1
 ·rw [if_pos h]; exact ⟨_, _, _, rfl, by omega, Or.inr ⟨h, rfl⟩, by omega, by omega⟩
 rw [if_neg h]
 obtain ⟨v, s1, e, h0, h1⟩ := next l hl a s ha (by omega)
 rw [e]
 simp only [Option.bind_some]
 have hmod : ∀ x : Int, 0 ≤ x → 0 ≤ Int.tmod x n ∧ Int.tmod x n < n := fun x hx => by
  rw [Int.tmod_eq_emod_of_nonneg hx]
  exact ⟨Int.emod_nonneg _ (by omega), Int.emod_lt_of_pos _ (by omega)⟩
 by_cases h2 : n > 200
 ·rw [if_pos h2]
  obtain ⟨v2, s2, e2, h02, h12⟩ := next l hl (a + 1) s1 (by omega) (by omega)
  rw [e2]
  simp only [Option.bind_some]
  have hw : wrap64 (wrap64 (v * 256) + v2) = v * 256 + v2 := by rw [w64 (x := v * 256) (by omega) (by omega), w64 (by omega) (by omega)]
  rw [if_neg (by omega), hw]
  have := hmod (v * 256 + v2) (by omega)
  exact ⟨_, _, _, rfl, this.1, Or.inl this.2, by omega, by omega⟩
 ·rw [if_neg h2, if_neg (by omega)]
  have := hmod v h0
  exact ⟨_, _, _, rfl, this.1, Or.inl this.2, by omega, by omega⟩
end Go.Proofs.Ytnhnlfkbngnkpaa.Draw
