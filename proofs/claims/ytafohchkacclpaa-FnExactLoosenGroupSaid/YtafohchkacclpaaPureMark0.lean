/- The text of a mark. -/
import Derived.Test.YtafohchkacclpaaB9
import Derived.Test.YtafohchkacclpaaPureText0
set_option linter.unusedVariables false
set_option linter.unusedSimpArgs false
namespace Go.Proofs.Ytafohchkacclpaa.Text
open Go.RowKit Go.Proofs.YtafohchkacclpaaW.PrintWords Go.Proofs.YtafohchkacclpaaW.PrintLast Go.Proofs.YtafohchkacclpaaW.PrintMore Go.Proofs.Ytafohchkacclpaa.Tools Go.Proofs.Ytafohchkacclpaa.B

/-! marks -/
theorem strOf_size1 (x : Int) : (strOfNums [x]).size = 1 := by simp [strOfNums, ByteArray.size]
theorem markText_l0 : ∀ (d : Nat) (n : Int) (s : ByteArray), 0 ≤ n → n ≤ d → d ≤ 1000000000 → s.size + n.toNat ≤ 1000000000 → ∃ t, Ev (fun k => laws_markText.l0 k n s) t := by
  intro d
  induction d using Nat.strongRecOn with
  | _ d ih =>
    intro n s h0 hd hd2 hs
    by_cases hn : n > 0
    · have hq : Int.tdiv n 10 = n / 10 := Int.tdiv_eq_ediv_of_nonneg h0
      have hw : wrap64 (Int.tdiv n 10) = n / 10 := by rw [hq]; exact w64 (by omega) (by omega)
      obtain ⟨t, ht⟩ := ih (n / 10).toNat (by omega) (n / 10) (strOfNums [(wrap64 (48 + (Int.tmod n 10))) % 256] ++ s) (by omega) (by omega) (by omega) (by rw [ByteArray.size_append, strOf_size1]; omega)
      refine ⟨t, evStep (fun k => by rw [laws_markText.l0]) ?_⟩
      rw [hw]
      clear hw
      exact evPos hn (evSome (evPos (by rw [strOf_size1]; omega) ht))
    · refine ⟨(⟨#[109]⟩ : ByteArray) ++ s, evStep (fun k => by rw [laws_markText.l0]) ?_⟩
      exact evNeg hn (evPos (by omega) (Ev.now _))
theorem markText (n : Int) (h1 : n ≤ 100000000) : ∃ t, Ev (fun k => laws_markText.f k n) t := by
  by_cases hn : n ≤ 0
  · exact ⟨_, by unfold laws_markText.f; exact evPos hn (Ev.now _)⟩
  · obtain ⟨t, ht⟩ := markText_l0 n.toNat n ⟨#[]⟩ (by omega) (by omega) (by omega) (by have : (⟨#[]⟩ : ByteArray).size = 0 := rfl; omega)
    exact ⟨t, by unfold laws_markText.f; exact evNeg hn ht⟩
end Go.Proofs.Ytafohchkacclpaa.Text
