/- Drawn data. -/
import Derived.Test.YtnhnlfkbngnkpaaE11
import Derived.Test.YtnhnlfkbngnkpaaPureDraw
set_option linter.unusedVariables false
set_option linter.unusedSimpArgs false
namespace Go.Proofs.Ytnhnlfkbngnkpaa.Draw
open Go.RowKit Go.Proofs.YtnhnlfkbngnkpaaW.PrintWords Go.Proofs.YtnhnlfkbngnkpaaW.PrintLast Go.Proofs.YtnhnlfkbngnkpaaW.PrintMore Go.Proofs.Ytnhnlfkbngnkpaa.Tools Go.Proofs.Ytnhnlfkbngnkpaa.E

theorem of_ (l : List Int) (hl : Code l) (a s : Int) (t : List ByteArray) (ht : 1 ≤ t.length) (ht2 : t.length ≤ 1000000) (ha : 0 ≤ a) (ha2 : a ≤ 100000000000) : ∃ v a' s', qzc.f l a s t = some (v, a', s') ∧ v ∈ t ∧ a ≤ a' ∧ a' ≤ a + 2 := by
 unfold qzc.f
 obtain ⟨v, a', s', e, h0, h1, h2, h3⟩ := pick l hl a s (t.length : Int) ha ha2
 rw [e]
 simp only [Option.bind_some]
 have hv : v < (t.length : Int) := by omega
 rw [if_pos h0, if_pos hv]
 exact ⟨_, _, _, rfl, qoc (by omega) _, h2, h3⟩
theorem one (l : List Int) (hl : Code l) (a s n : Int) (ha : 0 ≤ a) (ha2 : a ≤ 100000000000) : ∃ b a' s', qAc.f l a s n = some (b, a', s') ∧ a ≤ a' ∧ a' ≤ a + 2 := by
 unfold qAc.f
 obtain ⟨v, a', s', e, h0, h1, h2, h3⟩ := pick l hl a s n ha ha2
 rw [e]
 exact ⟨_, _, _, rfl, h2, h3⟩
def words : List ByteArray := [(⟨#[97, 98, 99]⟩ : ByteArray), (⟨#[97]⟩ : ByteArray), (⟨#[120, 121, 122]⟩ : ByteArray), (⟨#[97, 98, 99, 97, 98, 99]⟩ : ByteArray), (⟨#[45, 45]⟩ : ByteArray), (⟨#[113]⟩ : ByteArray)]
theorem words_size : ∀ w ∈ words, w.size ≤ 6 := by
 intro w hw
 simp only [words, List.mem_cons, List.not_mem_nil, or_false] at hw
 rcases hw with rfl | rfl | rfl | rfl | rfl | rfl <;> decide
theorem strOf_len (l : List Int) : (strOfNums l).size = l.length := by simp [strOfNums, ByteArray.size]
theorem data_l0 (l : List Int) (hl : Code l) : ∀ (d : Nat) (n a s : Int) (t : ByteArray), n ≤ d → d ≤ 100 → 0 ≤ a → a + 2 * d ≤ 10000000000 → t.size + 6 * d ≤ 1000 →
  ∃ v a' s', Ev (fun k => qZ.l0 k t n l a s) (v, a', s') ∧ v.size ≤ 1000 ∧ a ≤ a' ∧ a' ≤ a + 2 * d + 4 := by
 intro d
 have hend : ∀ (n a s : Int) (t : ByteArray), ¬ n > 0 → 0 ≤ a → a ≤ 20000000000 → t.size ≤ 1000 → ∃ v a' s', Ev (fun k => qZ.l0 k t n l a s) (v, a', s') ∧ v.size ≤ 1000 ∧ a ≤ a' ∧ a' ≤ a + 4 := by
  intro n a s t hn ha ha2 ht
  obtain ⟨b, a1, s1, e, h1, h2⟩ := one l hl a s 30 ha (by omega)
  by_cases hb : b = true
  ·obtain ⟨v, a2, s2, e2, h02, h12, h22, h32⟩ := pick l hl a1 s1 2 (by omega) (by omega)
   have hw : wrap64 (300 + v) = 300 + v := w64 (by omega) (by omega)
   refine ⟨strOfNums (List.replicate (300 + v).toNat 0), a2, s2, qV (fun k => by rw [qZ.l0]) ?_, ?_, by omega, by omega⟩
   ·refine qP hn (evBS e (qA hb (evBS e2 ?_)))
    rw [hw]
    clear hw
    exact qA (by omega) (qA (by omega) (Ev.now _))
   ·rw [strOf_len, List.length_replicate]; omega
  ·refine ⟨t, a1, s1, qV (fun k => by rw [qZ.l0]) ?_, ht, by omega, by omega⟩
   exact qP hn (evBS e (qP hb (Ev.now _)))
 induction d with
 | zero =>
  intro n a s t hn hd ha ha2 ht
  obtain ⟨v, a', s', h, h1, h2, h3⟩ := hend n a s t (by omega) ha (by omega) (by omega)
  exact ⟨v, a', s', h, h1, h2, by omega⟩
 | succ d ih =>
  intro n a s t hn hd ha ha2 ht
  by_cases hp : n > 0
  ·obtain ⟨w, a1, s1, e, hw, h1, h2⟩ := of_ l hl a s words (by decide) (by decide) ha (by omega)
   have hws := words_size w hw
   have hw1 : wrap64 (n - 1) = n - 1 := w64 (by omega) (by omega)
   obtain ⟨v, a', s', h, h3, h4, h5⟩ := ih (n - 1) a1 s1 (t ++ w) (by omega) (by omega) (by omega) (by omega) (by rw [ByteArray.size_append]; omega)
   refine ⟨v, a', s', qV (fun k => by rw [qZ.l0]) ?_, h3, by omega, by omega⟩
   rw [hw1]
   clear hw1
   exact qA hp (evBS e (qA (show t.size + w.size ≤ _ by omega) h))
  ·obtain ⟨v, a', s', h, h1, h2, h3⟩ := hend n a s t hp ha (by omega) (by omega)
   exact ⟨v, a', s', h, h1, h2, by omega⟩
theorem data (l : List Int) (hl : Code l) (a s : Int) (ha : 0 ≤ a) (ha2 : a ≤ 1000000000) : ∃ v a' s', Ev (fun k => qZ.f k l a s) (v, a', s') ∧ v.size ≤ 1000 ∧ a ≤ a' ∧ a' ≤ a + 100 := by
 unfold qZ.f
 obtain ⟨n, a1, s1, e, h0, h1, h2, h3⟩ := pick l hl a s 6 ha (by omega)
 obtain ⟨v, a', s', h, h4, h5, h6⟩ := data_l0 l hl 6 n a1 s1 ⟨#[]⟩ (by omega) (by omega) (by omega) (by omega) (by decide)
 exact ⟨v, a', s', evBS e h, h4, by omega, by omega⟩
end Go.Proofs.Ytnhnlfkbngnkpaa.Draw
