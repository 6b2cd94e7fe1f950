/- The least pairs of places of a longest shared part, by both. -/
import Derived.Test.YtafohchkacclpaaC4
import Derived.Test.YtafohchkacclpaaC8
import Derived.Test.YtafohchkacclpaaPureTable
set_option linter.unusedVariables false
set_option linter.unusedSimpArgs false
namespace Go.Proofs.Ytafohchkacclpaa.Text
open Go.RowKit Go.Proofs.YtafohchkacclpaaW.PrintWords Go.Proofs.YtafohchkacclpaaW.PrintLast Go.Proofs.YtafohchkacclpaaW.PrintMore Go.Proofs.Ytafohchkacclpaa.Tools Go.Proofs.Ytafohchkacclpaa.C

abbrev P2 := S164
def cvS (l : List (Nat × Nat)) : List P2 := l.map fun p => ⟨(p.1 : Int), (p.2 : Int)⟩
def cvI (l : List (Nat × Nat)) : Tb := l.map fun p => [(p.1 : Int), (p.2 : Int)]
theorem tb_row (a b : T) {i : Nat} (h : i ≤ a.length) : rd_L5 (tbl a b) (i : Int) = trow a b i := tbl_get a b h
theorem tb_at (a b : T) {i j : Nat} (h : i ≤ a.length) (h2 : j ≤ b.length) : rd (rd_L5 (tbl a b) (i : Int)) (j : Int) = (tv a b i j : Int) := by
  rw [tb_row a b h]; exact trow_get a b i h2
section
variable (a b : T) (ha : a.length ≤ 1000) (hb : b.length ≤ 1000) (i j : Nat) (hi : i ≤ a.length) (hj : j ≤ b.length) (acc : List P2) (R : List P2)
include ha hb hi hj
theorem sp_end (r c : Nat) (hr : i ≤ r) (hr2 : r < a.length) (x y : Int) (h : c < j ∨ c = j) (k : Ev (fun k => spec_l3Pairs.l1 k a b (tbl a b) acc (i : Int) (j : Int) x y ((r : Int) - 1)) R) :
    Ev (fun k => spec_l3Pairs.l2 k a b (tbl a b) acc (i : Int) (j : Int) x y (r : Int) ((c : Int) - 1)) R := by
  have _ := hb
  have _ := hi
  have _ := hj
  have hw : wrap64 ((r : Int) - 1) = (r : Int) - 1 := w64 (by omega) (by omega)
  refine evStep (fun k => by rw [spec_l3Pairs.l2]) ?_
  simp only [hw]
  exact evNeg (by omega) k
theorem sp_step (r c : Nat) (hr : i ≤ r) (hr2 : r < a.length) (hc : j ≤ c) (hc2 : c < b.length) (x y : Int)
    (k1 : Mt a b i j r c → Ev (fun k => spec_l3Pairs.l2 k a b (tbl a b) acc (i : Int) (j : Int) (r : Int) (c : Int) (r : Int) ((c : Int) - 1)) R)
    (k0 : ¬ Mt a b i j r c → Ev (fun k => spec_l3Pairs.l2 k a b (tbl a b) acc (i : Int) (j : Int) x y (r : Int) ((c : Int) - 1)) R) :
    Ev (fun k => spec_l3Pairs.l2 k a b (tbl a b) acc (i : Int) (j : Int) x y (r : Int) (((c + 1 : Nat) : Int) - 1)) R := by
  have e0 : ((c + 1 : Nat) : Int) - 1 = (c : Int) := by omega
  rw [e0]
  have hr1 : wrap64 ((r : Int) + 1) = ((r + 1 : Nat) : Int) := by rw [w64 (by omega) (by omega)]; omega
  have hc1 : wrap64 ((c : Int) + 1) = ((c + 1 : Nat) : Int) := by rw [w64 (by omega) (by omega)]; omega
  have hc3 : wrap64 ((c : Int) - 1) = (c : Int) - 1 := w64 (by omega) (by omega)
  have hb1 := tv_le a b (r + 1) (c + 1)
  have hv : wrap64 ((tv a b (r + 1) (c + 1) : Int) + 1) = (tv a b (r + 1) (c + 1) : Int) + 1 := w64 (by omega) (by omega)
  have L1 := tbl_len a b
  have L2 := trow_len a b (r + 1)
  have L3 := trow_len a b i
  refine evStep (fun k => by rw [spec_l3Pairs.l2]) ?_
  simp only [hr1, hc1, hc3, rd_t, bytes_eq_iff, tb_at a b (show r + 1 ≤ a.length by omega) (show c + 1 ≤ b.length by omega), tb_at a b hi hj, tb_row a b (show r + 1 ≤ a.length by omega), tb_row a b hi]
  clear hr1 hc1 hc3
  have g1 := trow_get a b (r + 1) (j := c + 1) (by omega)
  have g2 := trow_get a b i (j := j) hj
  simp only [rd_n, g1, g2, hv]
  clear hv
  refine evPos (by omega) (evPos (by omega) (evPos (by omega) (evPos (by omega) (evPos (by omega) ?_))))
  by_cases e : a.getD r em = b.getD c em
  · refine evPos e (evPos (by omega) (evPos (by omega) (evPos (by omega) (evPos (by omega) (evPos (by omega) (evPos (by omega) (evPos (by omega) (evPos (by omega) ?_))))))))
    by_cases m : tv a b (r + 1) (c + 1) + 1 = tv a b i j
    · exact evPos (by omega) (k1 ⟨e, m⟩)
    · exact evNeg (by omega) (k0 (fun h => m h.2))
  · exact evNeg e (k0 (fun h => e h.1))
theorem sp_any (r : Nat) (hr : i ≤ r) (hr2 : r < a.length) (k : ∀ x y, Ev (fun k => spec_l3Pairs.l1 k a b (tbl a b) acc (i : Int) (j : Int) x y ((r : Int) - 1)) R) :
    ∀ (c : Nat), c ≤ b.length → ∀ x y, Ev (fun k => spec_l3Pairs.l2 k a b (tbl a b) acc (i : Int) (j : Int) x y (r : Int) ((c : Int) - 1)) R := by
  intro c
  induction c with
  | zero => intro hc x y; exact sp_end a b ha hb i j hi hj acc R r 0 hr hr2 x y (by omega) (k x y)
  | succ c ih =>
    intro hc x y
    by_cases g : j ≤ c
    · exact sp_step a b ha hb i j hi hj acc R r c hr hr2 g (by omega) x y (fun _ => ih (by omega) _ _) (fun _ => ih (by omega) _ _)
    · exact sp_end a b ha hb i j hi hj acc R r (c + 1) hr hr2 x y (by omega) (k x y)
theorem sp_no (r : Nat) (hr : i ≤ r) (hr2 : r < a.length) (x y : Int) (k : Ev (fun k => spec_l3Pairs.l1 k a b (tbl a b) acc (i : Int) (j : Int) x y ((r : Int) - 1)) R) :
    ∀ (c : Nat), c ≤ b.length → (∀ q, j ≤ q → q < c → ¬ Mt a b i j r q) → Ev (fun k => spec_l3Pairs.l2 k a b (tbl a b) acc (i : Int) (j : Int) x y (r : Int) ((c : Int) - 1)) R := by
  intro c
  induction c with
  | zero => intro hc hn; exact sp_end a b ha hb i j hi hj acc R r 0 hr hr2 x y (by omega) k
  | succ c ih =>
    intro hc hn
    by_cases g : j ≤ c
    · exact sp_step a b ha hb i j hi hj acc R r c hr hr2 g (by omega) x y (fun h => absurd h (hn c g (by omega))) (fun _ => ih (by omega) (fun q h1 h2 => hn q h1 (by omega)))
    · exact sp_end a b ha hb i j hi hj acc R r (c + 1) hr hr2 x y (by omega) k
theorem sp_l1 (r : Nat) (hr : i ≤ r) (hr2 : r < a.length) (x y : Int) (k : Ev (fun k => spec_l3Pairs.l2 k a b (tbl a b) acc (i : Int) (j : Int) x y (r : Int) ((b.length : Int) - 1)) R) :
    Ev (fun k => spec_l3Pairs.l1 k a b (tbl a b) acc (i : Int) (j : Int) x y (((r + 1 : Nat) : Int) - 1)) R := by
  have _ := ha
  have _ := hi
  have _ := hj
  have e0 : ((r + 1 : Nat) : Int) - 1 = (r : Int) := by omega
  rw [e0]
  have hw : wrap64 ((b.length : Int) - 1) = (b.length : Int) - 1 := w64 (by omega) (by omega)
  refine evStep (fun k => by rw [spec_l3Pairs.l1]) ?_
  simp only [hw]
  exact evPos (by omega) k
theorem sp_pair (p q : Nat) (hL : Lst a b i j p q) (hacc : acc.length ≤ 100000) (k : Ev (fun k => spec_l3Pairs.l0 k a b (tbl a b) (acc ++ [⟨(p : Int), (q : Int)⟩]) ((p + 1 : Nat) : Int) ((q + 1 : Nat) : Int)) R) :
    Ev (fun k => spec_l3Pairs.l0 k a b (tbl a b) acc (i : Int) (j : Int)) R := by
  obtain ⟨hip, hpa, hjq, hqb, hm, hrow, hcol⟩ := hL
  have st3 : ∀ d, d ≤ p → i ≤ d → Ev (fun k => spec_l3Pairs.l1 k a b (tbl a b) acc (i : Int) (j : Int) (p : Int) (q : Int) ((d : Int) - 1)) R := by
    intro d
    induction d with
    | zero =>
      intro h1 h2
      have hp1 := up1 (show p < a.length from hpa) (by omega)
      have hq1 := up1 (show q < b.length from hqb) (by omega)
      refine evStep (fun k => by rw [spec_l3Pairs.l1]) ?_
      simp only [hp1, hq1]
      exact evNeg (by omega) (evPos (by omega) k)
    | succ d ih =>
      intro h1 h2
      by_cases g : i ≤ d
      · exact sp_l1 a b ha hb i j hi hj acc R d g (by omega) _ _ (sp_no a b ha hb i j hi hj acc R d g (by omega) _ _ (ih (by omega) g) b.length (Nat.le_refl _) (fun q' h3 h4 => hrow d q' g (by omega) h3 h4))
      · have hp1 := up1 (show p < a.length from hpa) (by omega)
        have hq1 := up1 (show q < b.length from hqb) (by omega)
        refine evStep (fun k => by rw [spec_l3Pairs.l1]) ?_
        simp only [hp1, hq1]
        exact evNeg (by omega) (evPos (by omega) k)
  have st2 : ∀ c, q + 1 ≤ c → c ≤ b.length → ∀ x y, Ev (fun k => spec_l3Pairs.l2 k a b (tbl a b) acc (i : Int) (j : Int) x y (p : Int) ((c : Int) - 1)) R := by
    intro c
    induction c with
    | zero => intro h1; omega
    | succ c ih =>
      intro h1 h2 x y
      by_cases g : c = q
      · subst g
        exact sp_step a b ha hb i j hi hj acc R p c hip hpa hjq hqb x y (fun _ => sp_no a b ha hb i j hi hj acc R p hip hpa _ _ (st3 p (Nat.le_refl _) hip) c (by omega) (fun q' h3 h4 => hcol q' h3 h4)) (fun h => absurd hm h)
      · exact sp_step a b ha hb i j hi hj acc R p c hip hpa (by omega) (by omega) x y (fun _ => ih (by omega) (by omega) _ _) (fun _ => ih (by omega) (by omega) _ _)
  have st1 : ∀ d, p + 1 ≤ d → d ≤ a.length → ∀ x y, Ev (fun k => spec_l3Pairs.l1 k a b (tbl a b) acc (i : Int) (j : Int) x y ((d : Int) - 1)) R := by
    intro d
    induction d with
    | zero => intro h1; omega
    | succ d ih =>
      intro h1 h2 x y
      by_cases g : d = p
      · subst g
        exact sp_l1 a b ha hb i j hi hj acc R d hip hpa x y (st2 b.length (by omega) (Nat.le_refl _) x y)
      · exact sp_l1 a b ha hb i j hi hj acc R d (by omega) (by omega) x y (sp_any a b ha hb i j hi hj acc R d (by omega) (by omega) (fun x y => ih (by omega) (by omega) x y) b.length (Nat.le_refl _) x y)
  have hw : wrap64 ((a.length : Int) - 1) = (a.length : Int) - 1 := w64 (by omega) (by omega)
  have L1 := tbl_len a b
  have L3 := trow_len a b i
  have hpos : 0 < tv a b i j := by have := hm.2; omega
  refine evStep (fun k => by rw [spec_l3Pairs.l0]) ?_
  simp only [hw, tb_at a b hi hj, tb_row a b hi]
  have g2 := trow_get a b i (j := j) hj
  simp only [rd_n, g2]
  exact evPos (by omega) (evPos (by omega) (evPos (by omega) (evPos (by omega) (evPos (by omega) (st1 a.length (by omega) (Nat.le_refl _) _ _)))))
end
theorem sPairs (a b : T) (ha : a.length ≤ 1000) (hb : b.length ≤ 1000) : ∀ (l : List (Nat × Nat)) (i j : Nat) (acc : List P2), i ≤ a.length → j ≤ b.length → acc.length + l.length ≤ 10000 → PR a b i j l →
    Ev (fun k => spec_l3Pairs.l0 k a b (tbl a b) acc (i : Int) (j : Int)) (acc ++ cvS l) := by
  intro l
  induction l with
  | nil =>
    intro i j acc hi hj hl h
    have h0 : tv a b i j = 0 := h
    have L1 := tbl_len a b
    have L3 := trow_len a b i
    have g2 := trow_get a b i (j := j) hj
    refine evStep (fun k => by rw [spec_l3Pairs.l0]) ?_
    simp only [tb_row a b hi, rd_n, g2]
    exact evPos (by omega) (evPos (by omega) (evPos (by omega) (evPos (by omega) (evNeg (by omega) (evEq (Ev.now _) (by simp [cvS]))))))
  | cons p l ih =>
    obtain ⟨p, q⟩ := p
    intro i j acc hi hj hl h
    rw [List.length_cons] at hl
    have h1 := h.1.hpa
    have h2 := h.1.hqb
    refine sp_pair a b ha hb i j hi hj acc _ p q h.1 (by omega) (evEq (ih (p + 1) (q + 1) (acc ++ [⟨(p : Int), (q : Int)⟩]) (by omega) (by omega) (by simp; omega) h.2) ?_)
    rw [List.append_assoc]; rfl
/-! ### by the program -/
section
variable (a b : T) (ha : a.length ≤ 1000) (hb : b.length ≤ 1000) (i j : Nat) (hi : i ≤ a.length) (hj : j ≤ b.length) (acc : Tb) (R : Tb)
include ha hb hi hj
theorem ip_step (r c : Nat) (hr : i ≤ r) (hr2 : r < a.length) (hc : j ≤ c) (hc2 : c < b.length) (hpos : 0 < tv a b i j) (hacc : acc.length ≤ 100000)
    (k1 : Mt a b i j r c → Ev (fun k => impl_commonLines.l0 k a b (tbl a b) (acc ++ [[(r : Int), (c : Int)]]) ((c + 1 : Nat) : Int) ((tv a b i j : Int) - 1) (a.length : Int) ((r + 1 : Nat) : Int)) R)
    (k0 : ¬ Mt a b i j r c → Ev (fun k => impl_commonLines.l1 k a b (tbl a b) acc (j : Int) (tv a b i j : Int) (r : Int) ((c + 1 : Nat) : Int) (a.length : Int) (r : Int)) R) :
    Ev (fun k => impl_commonLines.l1 k a b (tbl a b) acc (j : Int) (tv a b i j : Int) (r : Int) (c : Int) (a.length : Int) (r : Int)) R := by
  have _ := hi
  have _ := hj
  have hr1 : wrap64 ((r : Int) + 1) = ((r + 1 : Nat) : Int) := by rw [w64 (by omega) (by omega)]; omega
  have hc1 : wrap64 ((c : Int) + 1) = ((c + 1 : Nat) : Int) := by rw [w64 (by omega) (by omega)]; omega
  have hb1 := tv_le a b i j
  have hv : wrap64 ((tv a b i j : Int) - 1) = (tv a b i j : Int) - 1 := w64 (by omega) (by omega)
  have L1 := tbl_len a b
  have L2 := trow_len a b (r + 1)
  have g1 := trow_get a b (r + 1) (j := c + 1) (by omega)
  refine evStep (fun k => by rw [impl_commonLines.l1]) (evPos (by omega) ?_)
  rw [decide_eq_true (show (tv a b i j : Int) > 0 by omega)]
  refine evStep (fun k => by rw [impl_commonLines.j2]) (evPos rfl ?_)
  simp only [hr1, hc1, hv, rd_t, bytes_eq_iff, tb_row a b (show r + 1 ≤ a.length by omega), rd_n, g1]
  clear hr1 hc1 hv
  refine evPos (by omega) (evPos (by omega) (evPos (by omega) (evPos (by omega) ?_)))
  by_cases e : a.getD r em = b.getD c em
  · refine evPos e (evPos (by omega) (evPos (by omega) (evPos (by omega) (evPos (by omega) ?_))))
    by_cases m : tv a b (r + 1) (c + 1) + 1 = tv a b i j
    · exact evPos (by omega) (evPos (by omega) (k1 ⟨e, m⟩))
    · exact evNeg (by omega) (k0 (fun h => m h.2))
  · exact evNeg e (k0 (fun h => e h.1))
theorem ip_next (r : Nat) (hr2 : r < a.length) (k : Ev (fun k => impl_commonLines.l0 k a b (tbl a b) acc (j : Int) (tv a b i j : Int) (a.length : Int) ((r + 1 : Nat) : Int)) R) :
    Ev (fun k => impl_commonLines.l1 k a b (tbl a b) acc (j : Int) (tv a b i j : Int) (r : Int) (b.length : Int) (a.length : Int) (r : Int)) R := by
  have _ := hb
  have _ := hi
  have _ := hj
  have hr1 : wrap64 ((r : Int) + 1) = ((r + 1 : Nat) : Int) := by rw [w64 (by omega) (by omega)]; omega
  refine evStep (fun k => by rw [impl_commonLines.l1]) (evNeg (by omega) ?_)
  refine evStep (fun k => by rw [impl_commonLines.j2]) (evNeg (by simp) ?_)
  rw [hr1]; exact k
theorem ip_no (r : Nat) (hr : i ≤ r) (hr2 : r < a.length) (hpos : 0 < tv a b i j) (hacc : acc.length ≤ 100000) (k : Ev (fun k => impl_commonLines.l0 k a b (tbl a b) acc (j : Int) (tv a b i j : Int) (a.length : Int) ((r + 1 : Nat) : Int)) R)
    (hn : ∀ q, j ≤ q → q < b.length → ¬ Mt a b i j r q) : ∀ (d c : Nat), b.length - c = d → j ≤ c → c ≤ b.length → Ev (fun k => impl_commonLines.l1 k a b (tbl a b) acc (j : Int) (tv a b i j : Int) (r : Int) (c : Int) (a.length : Int) (r : Int)) R := by
  intro d
  induction d with
  | zero =>
    intro c hd h1 h2
    obtain rfl : c = b.length := by omega
    exact ip_next a b ha hb i j hi hj acc R r hr2 k
  | succ d ih =>
    intro c hd h1 h2
    exact ip_step a b ha hb i j hi hj acc R r c hr hr2 h1 (by omega) hpos hacc (fun h => absurd h (hn c h1 (by omega))) (fun _ => ih (c + 1) (by omega) (by omega) (by omega))
theorem ip_hit (p q : Nat) (hL : Lst a b i j p q) (hpos : 0 < tv a b i j) (hacc : acc.length ≤ 100000)
    (k : Ev (fun k => impl_commonLines.l0 k a b (tbl a b) (acc ++ [[(p : Int), (q : Int)]]) ((q + 1 : Nat) : Int) ((tv a b i j : Int) - 1) (a.length : Int) ((p + 1 : Nat) : Int)) R) :
    ∀ (d c : Nat), q - c = d → j ≤ c → c ≤ q → Ev (fun k => impl_commonLines.l1 k a b (tbl a b) acc (j : Int) (tv a b i j : Int) (p : Int) (c : Int) (a.length : Int) (p : Int)) R := by
  intro d
  have h5 := hL.hqb
  induction d with
  | zero =>
    intro c hd h1 h2
    obtain rfl : c = q := by omega
    exact ip_step a b ha hb i j hi hj acc R p c hL.hip hL.hpa h1 h5 hpos hacc (fun _ => k) (fun h => absurd hL.hm h)
  | succ d ih =>
    intro c hd h1 h2
    exact ip_step a b ha hb i j hi hj acc R p c hL.hip hL.hpa h1 (by omega) hpos hacc (fun h => absurd h (hL.hcol c h1 (by omega))) (fun _ => ih (c + 1) (by omega) (by omega) (by omega))
theorem ip_rows (p q : Nat) (hL : Lst a b i j p q) (hpos : 0 < tv a b i j) (hacc : acc.length ≤ 100000)
    (k : Ev (fun k => impl_commonLines.l0 k a b (tbl a b) (acc ++ [[(p : Int), (q : Int)]]) ((q + 1 : Nat) : Int) ((tv a b i j : Int) - 1) (a.length : Int) ((p + 1 : Nat) : Int)) R) :
    ∀ (d r : Nat), p - r = d → i ≤ r → r ≤ p → Ev (fun k => impl_commonLines.l0 k a b (tbl a b) acc (j : Int) (tv a b i j : Int) (a.length : Int) (r : Int)) R := by
  intro d
  have h5 := hL.hpa
  have h6 := hL.hjq
  induction d with
  | zero =>
    intro r hd h1 h2
    obtain rfl : r = p := by omega
    refine evStep (fun k => by rw [impl_commonLines.l0]) (evPos (by omega) ?_)
    exact ip_hit a b ha hb i j hi hj acc R r q hL hpos hacc k (q - j) j rfl (Nat.le_refl _) h6
  | succ d ih =>
    intro r hd h1 h2
    refine evStep (fun k => by rw [impl_commonLines.l0]) (evPos (by omega) ?_)
    exact ip_no a b ha hb i j hi hj acc R r h1 (by omega) hpos hacc (ih (r + 1) (by omega) (by omega) (by omega)) (fun q' h3 h4 => hL.hrow r q' h1 (by omega) h3 h4) (b.length - j) j rfl (Nat.le_refl _) hj
theorem ip_zero (h0 : tv a b i j = 0) : ∀ (d r : Nat), a.length - r = d → r ≤ a.length → Ev (fun k => impl_commonLines.l0 k a b (tbl a b) acc (j : Int) (tv a b i j : Int) (a.length : Int) (r : Int)) acc := by
  have _ := hb
  have _ := hi
  have _ := hj
  intro d
  induction d with
  | zero =>
    intro r hd h1
    refine evStep (fun k => by rw [impl_commonLines.l0]) ?_
    exact evNeg (by omega) (Ev.now _)
  | succ d ih =>
    intro r hd h1
    have hr1 : wrap64 ((r : Int) + 1) = ((r + 1 : Nat) : Int) := by rw [w64 (by omega) (by omega)]; omega
    have h := ih (r + 1) (by omega) (by omega)
    have nx : Ev (fun k => impl_commonLines.j2 k a b (tbl a b) acc (j : Int) (tv a b i j : Int) (r : Int) (j : Int) (a.length : Int) (r : Int) false) acc := by
      refine evStep (fun k => by rw [impl_commonLines.j2]) (evNeg (by simp) ?_)
      rw [hr1]; exact h
    refine evStep (fun k => by rw [impl_commonLines.l0]) (evPos (by omega) ?_)
    refine evStep (fun k => by rw [impl_commonLines.l1]) ?_
    rw [decide_eq_false (show ¬ (tv a b i j : Int) > 0 by omega)]
    exact evIte (fun _ => nx) (fun _ => nx)
end
theorem iPairs (a b : T) (ha : a.length ≤ 1000) (hb : b.length ≤ 1000) : ∀ (l : List (Nat × Nat)) (i j : Nat) (acc : Tb), i ≤ a.length → j ≤ b.length → acc.length + l.length ≤ 10000 → PR a b i j l →
    Ev (fun k => impl_commonLines.l0 k a b (tbl a b) acc (j : Int) (tv a b i j : Int) (a.length : Int) (i : Int)) (acc ++ cvI l) := by
  intro l
  induction l with
  | nil =>
    intro i j acc hi hj hl h
    exact evEq (ip_zero a b ha hb i j hi hj acc h (a.length - i) i rfl hi) (by simp [cvI])
  | cons p l ih =>
    obtain ⟨p, q⟩ := p
    intro i j acc hi hj hl h
    rw [List.length_cons] at hl
    have h1 := h.1.hpa
    have h2 := h.1.hqb
    have h3 := h.1.hm.2
    have kk := ih (p + 1) (q + 1) (acc ++ [[(p : Int), (q : Int)]]) (by omega) (by omega) (by simp; omega) h.2
    rw [show (tv a b (p + 1) (q + 1) : Int) = (tv a b i j : Int) - 1 by omega] at kk
    refine evEq (ip_rows a b ha hb i j hi hj acc _ p q h.1 (by omega) (by omega) kk (p - i) i rfl (Nat.le_refl _) h.1.hip) ?_
    rw [List.append_assoc]; rfl
theorem pairs_both (a b : T) (ha : a.length ≤ 1000) (hb : b.length ≤ 1000) : ∃ l, PR a b 0 0 l ∧ l.length ≤ 1000 ∧ Ev (fun k => spec_l3Pairs.f k a b) (cvS l) ∧ Ev (fun k => impl_commonLines.f k a b) (cvI l) := by
  obtain ⟨l, hl, hn⟩ := ex_PR a b a.length 0 0 (by omega)
  refine ⟨l, hl, by omega, ?_, ?_⟩
  · unfold spec_l3Pairs.f
    exact evB (sTable a b ha hb) (evEq (sPairs a b ha hb l 0 0 [] (by omega) (by omega) (by simp; omega) hl) (by simp))
  · unfold impl_commonLines.f
    have L1 := tbl_len a b
    have L2 := trow_len a b 0
    have e1 : rd_L5 (tbl a b) 0 = trow a b 0 := tb_row a b (Nat.zero_le _)
    have e2 : rd (trow a b 0) 0 = (tv a b 0 0 : Int) := trow_get a b 0 (Nat.zero_le _)
    refine evB (iTable a b ha hb) ?_
    rw [e1, e2]
    exact evPos (by omega) (evPos (by omega) (evEq (iPairs a b ha hb l 0 0 [] (by omega) (by omega) (by simp; omega) hl) (by simp)))
end Go.Proofs.Ytafohchkacclpaa.Text
