-- Made by a program of this session out of the translation; no hand has turned it.
import Derived.Test.YtnhnlfkbngnkpaaE0
namespace Go.Proofs.Ytnhnlfkbngnkpaa.E
open Go.RowKit Go.Proofs.YtnhnlfkbngnkpaaW.PrintWords Go.Proofs.YtnhnlfkbngnkpaaW.PrintLast Go.Proofs.YtnhnlfkbngnkpaaW.PrintMore
attribute [local go_sem] qXb qbc qac qec qZb qdc qYb qcc   -- for this text's walks alone
set_option linter.unusedVariables false
set_option linter.unusedSimpArgs false

/-- A state of type 79 at block g of W; what its slices lead to came in by w0. -/
def qd (w0 W : World) (g : Nat) (f0 : List Int) (f1 : Int) (f2 : Int) : Prop := ∃ A0 c0, W.heap[g]? = some (.cells #[.slice A0 f0.length c0, .int .i64 f1, .int .u64 f2] 79 (0, 0)) ∧ w0.heap.size ≤ g ∧ Kd.C (Kd.int .u8) w0 A0 f0.length f0
theorem qd.grown {w0 W : World} {g : Nat} {f0 : List Int} {f1 : Int} {f2 : Int} {W1 : World} {row : Option Nat} (h : qd w0 W g f0 f1 f2) (hw : W.grownBy W1 row) (hne : some g ≠ row) : qd w0 W1 g f0 f1 f2 := by
 obtain ⟨A0, c0, hb, hg, hr0⟩ := h
 exact ⟨A0, c0, qJb hb hw hne, hg, hr0⟩
theorem qd.own_neN {w0 W : World} {g : Nat} {f0 : List Int} {f1 : Int} {f2 : Int} {α : Type} {d : Kd α} {e : Nat} {base : Nat} {ok : Nat → Prop} {v : Value} {xs : List α} (h : qd w0 W g f0 f1 f2) (ho : Kd.N d e W base ok v xs) (ht : e ≠ 79) : some g ≠ v.ownBlock := by
 obtain ⟨A0, c0, hb, hg, hr0⟩ := h
 exact Kd.N_ne ho hb ht
theorem qd.fresh {w0 W : World} {g : Nat} {f0 : List Int} {f1 : Int} {f2 : Int} (h : qd w0 W g f0 f1 f2) : ∀ k, W.heap.size ≤ k → k ≠ g := by
 obtain ⟨A0, c0, hb, hg, hr0⟩ := h
 exact Kd.freshB hb
theorem qd.kept {w0 W : World} {g : Nat} {f0 : List Int} {f1 : Int} {f2 : Int} {W1 : World} {S : Nat → Prop} (h : qd w0 W g f0 f1 f2) (hk : Kept W W1 S) (hne : ¬ S g) : qd w0 W1 g f0 f1 f2 := by
 obtain ⟨A0, c0, hb, hg, hr0⟩ := h
 exact ⟨A0, c0, blk_kept hb hk hne, hg, hr0⟩
theorem qd.below {w0 W : World} {g : Nat} {f0 : List Int} {f1 : Int} {f2 : Int} {W1 : World} (h : qd w0 W g f0 f1 f2) (hw : Below W.heap.size W W1) : qd w0 W1 g f0 f1 f2 := h.grown (grown_of_below hw none) (by simp)
theorem qd.alloc {w0 W : World} {g : Nat} {f0 : List Int} {f1 : Int} {f2 : Int} (h : qd w0 W g f0 f1 f2) (o : Obj) : qd w0 (W.alloc o) g f0 f1 f2 := h.below (qf (Below.refl _ _) o)
theorem qd.drewN {w0 W : World} {g : Nat} {f0 : List Int} {f1 : Int} {f2 : Int} (h : qd w0 W g f0 f1 f2) (m : Nat) : qd w0 (W.drewN m) g f0 f1 f2 := h
theorem qd.drew {w0 W : World} {g : Nat} {f0 : List Int} {f1 : Int} {f2 : Int} (h : qd w0 W g f0 f1 f2) : qd w0 W.drew g f0 f1 f2 := h
theorem qd.at_ {w0 W : World} {g : Nat} {f0 : List Int} {f1 : Int} {f2 : Int} {w' : World} {m : Nat} (hq : W.drewN m = w') (h : qd w0 W g f0 f1 f2) : qd w0 w' g f0 f1 f2 := by subst hq; exact qd.drewN h m
theorem qd.apart {w0 W : World} {g : Nat} {f0 : List Int} {f1 : Int} {f2 : Int} {α : Type} {d : Kd α} {e : Nat} {base : Nat} {ok : Nat → Prop} {v : Value} {xs : List α} (h : qd w0 W g f0 f1 f2) (ho : d.R e W base ok v xs) (ht : ∀ q, q ∈ e :: d.E → q ≠ 79) : d.R e W base (fun k => ok k ∧ k ≠ g) v xs := by
 obtain ⟨A0, c0, hb, hg, hr0⟩ := h
 exact Kd.R_types ho hb ht
theorem qd.own_ne {w0 W : World} {g : Nat} {f0 : List Int} {f1 : Int} {f2 : Int} {α : Type} {d : Kd α} {e : Nat} {base : Nat} {ok : Nat → Prop} {v : Value} {xs : List α} (h : qd w0 W g f0 f1 f2) (ho : d.R e W base ok v xs) (ht : e ≠ 79) : some g ≠ v.ownBlock := by
 obtain ⟨A0, c0, hb, hg, hr0⟩ := h
 exact Kd.R_ne ho hb ht
theorem qd.apartQ {w0 W : World} {g : Nat} {f0 : List Int} {f1 : Int} {f2 : Int} {α : Type} {d : Kd α} {e : Nat} {base : Nat} {ok : Nat → Prop} {v : Value} {xs : List α} (h : qd w0 W g f0 f1 f2) (ho : d.Q e W base ok v xs) (ht : ∀ q, q ∈ e :: d.E → q ≠ 79) : d.Q e W base (fun k => ok k ∧ k ≠ g) v xs := by
 obtain ⟨A0, c0, hb, hg, hr0⟩ := h
 exact Kd.Q_types ho hb ht
theorem qd.own_neQ {w0 W : World} {g : Nat} {f0 : List Int} {f1 : Int} {f2 : Int} {α : Type} {d : Kd α} {e : Nat} {base : Nat} {ok : Nat → Prop} {v : Value} {xs : List α} (h : qd w0 W g f0 f1 f2) (ho : d.Q e W base ok v xs) (ht : e ≠ 79) : some g ≠ v.ownBlock := by
 obtain ⟨A0, c0, hb, hg, hr0⟩ := h
 exact Kd.Q_ne ho hb ht
theorem qd.apartS {w0 W : World} {g : Nat} {f0 : List Int} {f1 : Int} {f2 : Int} {α : Type} {d : Kd α} {e : Nat} {base : Nat} {ok : Nat → Prop} {v : Value} {xs : List α} (h : qd w0 W g f0 f1 f2) (ho : d.S e W base ok v xs) (ht : ∀ q, q ∈ e :: d.E → q ≠ 79) : d.S e W base (fun k => ok k ∧ k ≠ g) v xs := by
 obtain ⟨A0, c0, hb, hg, hr0⟩ := h
 exact Kd.S_types ho hb ht
theorem qd.own_neS {w0 W : World} {g : Nat} {f0 : List Int} {f1 : Int} {f2 : Int} {α : Type} {d : Kd α} {e : Nat} {base : Nat} {ok : Nat → Prop} {v : Value} {xs : List α} (h : qd w0 W g f0 f1 f2) (ho : d.S e W base ok v xs) (ht : e ≠ 79) : some g ≠ v.ownBlock := by
 obtain ⟨A0, c0, hb, hg, hr0⟩ := h
 exact Kd.S_ne ho hb ht
theorem qd.lt {w0 W : World} {g : Nat} {f0 : List Int} {f1 : Int} {f2 : Int} (h : qd w0 W g f0 f1 f2) : g < W.heap.size := by
 obtain ⟨A0, c0, hb, hg, hr0⟩ := h
 exact blk_lt hb
theorem qd.ge {w0 W : World} {g : Nat} {f0 : List Int} {f1 : Int} {f2 : Int} (h : qd w0 W g f0 f1 f2) : w0.heap.size ≤ g := by
 obtain ⟨A0, c0, hb, hg, hr0⟩ := h
 exact hg
theorem qd.ne_blk {w0 W : World} {g : Nat} {f0 : List Int} {f1 : Int} {f2 : Int} {a : Nat} {cs : Array Value} {t : TypeId} {fr : Nat × Nat} (h : qd w0 W g f0 f1 f2) (hb2 : W.heap[a]? = some (.cells cs t fr)) (ht : t ≠ 79) : g ≠ a := by
 obtain ⟨A0, c0, hb, hg, hr0⟩ := h
 rintro rfl
 rw [hb] at hb2
 injection hb2 with hb2
 injection hb2 with _ ht2
 exact ht ht2.symm
theorem qd.far {w0 W : World} {g : Nat} {f0 : List Int} {f1 : Int} {f2 : Int} {p : Addr} (h : qd w0 W g f0 f1 f2) (hne : g ≠ p.block) (u : Value) : qd w0 (W.setCell p u) g f0 f1 f2 := by
 obtain ⟨A0, c0, hb, hg, hr0⟩ := h
 exact ⟨A0, c0, blk_far hb hne u, hg, hr0⟩
theorem cellS79_0 {W : World} {g : Nat} {A0 : Option Addr} {c0 : Nat} {f0 : List Int} {f1 : Int} {f2 : Int} (h : W.heap[g]? = some (.cells #[.slice A0 f0.length c0, .int .i64 f1, .int .u64 f2] 79 (0, 0))) : W.cell? ⟨g, 0, none⟩ = some (.slice A0 f0.length c0) := (ql h 0).trans rfl
theorem cellS79_1 {W : World} {g : Nat} {A0 : Option Addr} {c0 : Nat} {f0 : List Int} {f1 : Int} {f2 : Int} (h : W.heap[g]? = some (.cells #[.slice A0 f0.length c0, .int .i64 f1, .int .u64 f2] 79 (0, 0))) : W.cell? ⟨g, 1, none⟩ = some (.int .i64 f1) := (ql h 1).trans rfl
theorem qd.set_1 {w0 W : World} {g : Nat} {f0 : List Int} {f1 : Int} {f2 : Int} (h : qd w0 W g f0 f1 f2) (x : Int) : qd w0 (W.setCell ⟨g, 1, none⟩ (.int .i64 x)) g f0 x f2 := by
 obtain ⟨A0, c0, hb, hg, hr0⟩ := h
 exact ⟨A0, c0, by simpa using blk_set hb 1 (.int .i64 x), hg, hr0⟩
theorem cellS79_2 {W : World} {g : Nat} {A0 : Option Addr} {c0 : Nat} {f0 : List Int} {f1 : Int} {f2 : Int} (h : W.heap[g]? = some (.cells #[.slice A0 f0.length c0, .int .i64 f1, .int .u64 f2] 79 (0, 0))) : W.cell? ⟨g, 2, none⟩ = some (.int .u64 f2) := (ql h 2).trans rfl
theorem qd.set_2 {w0 W : World} {g : Nat} {f0 : List Int} {f1 : Int} {f2 : Int} (h : qd w0 W g f0 f1 f2) (x : Int) : qd w0 (W.setCell ⟨g, 2, none⟩ (.int .u64 x)) g f0 f1 x := by
 obtain ⟨A0, c0, hb, hg, hr0⟩ := h
 exact ⟨A0, c0, by simpa using blk_set hb 2 (.int .u64 x), hg, hr0⟩
theorem qd.new (w0 W : World) (A0 : Option Addr) (c0 : Nat) (f0 : List Int) (f1 : Int) (f2 : Int) (hB : Below w0.heap.size w0 W) (hr0 : Kd.C (Kd.int .u8) w0 A0 f0.length f0) : qd w0 (W.alloc (.cells #[.slice A0 f0.length c0, .int .i64 f1, .int .u64 f2] 79)) W.heap.size f0 f1 f2 := ⟨A0, c0, by simpa using heap_alloc_new W _, hB.size, hr0⟩

/-! ### qjc: function 103 -/
def qjc.f (s0_0 : List Int) (s0_1 : Int) (s0_2 : Int) : Option (Int × Int × Int) := if s0_1 < (s0_0.length : Int) then (if 0 ≤ s0_1 then (if (wrap64 (s0_1 + 1)) ≤ (s0_0.length : Int) then (some (wrap64 (rd s0_0 s0_1), wrap64 (s0_1 + 1), IntKind.u64.wrap ((IntKind.u64.wrap ((IntKind.u64.wrap (s0_2 * 6364136223846793005)) + (IntKind.u64.wrap (wrap64 (rd s0_0 s0_1))))) + 1442695040888963407))) else (some (wrap64 (Go.bits .and .u64 ((IntKind.u64.wrap ((IntKind.u64.wrap ((IntKind.u64.wrap (s0_2 * 6364136223846793005)) + (IntKind.u64.wrap (wrap64 (rd s0_0 s0_1))))) + 1442695040888963407)) / 1099511627776) 255), wrap64 (s0_1 + 1), IntKind.u64.wrap ((IntKind.u64.wrap ((IntKind.u64.wrap (s0_2 * 6364136223846793005)) + (IntKind.u64.wrap (wrap64 (rd s0_0 s0_1))))) + 1442695040888963407)))) else (none)) else (if (wrap64 (s0_1 + 1)) ≤ (s0_0.length : Int) then (some (0, wrap64 (s0_1 + 1), IntKind.u64.wrap ((IntKind.u64.wrap (IntKind.u64.wrap (s0_2 * 6364136223846793005))) + 1442695040888963407))) else (some (wrap64 (Go.bits .and .u64 ((IntKind.u64.wrap ((IntKind.u64.wrap (IntKind.u64.wrap (s0_2 * 6364136223846793005))) + 1442695040888963407)) / 1099511627776) 255), wrap64 (s0_1 + 1), IntKind.u64.wrap ((IntKind.u64.wrap (IntKind.u64.wrap (s0_2 * 6364136223846793005))) + 1442695040888963407))))
set_option maxHeartbeats 8000000 in
set_option maxRecDepth 100000 in
theorem qjc.calls (g : Nat) (s0_0 : List Int) (s0_1 : Int) (s0_2 : Int) (r1 : Int) (r2 : Int) (r3 : Int) (w0 w : World) (hI : qd w0 w g s0_0 s0_1 s0_2) (hB : Below w0.heap.size w0 w) (h : qjc.f s0_0 s0_1 s0_2 = some (r1, r2, r3)) :
  Calls Try.prog 103 #[.pointer (some ⟨g, 0, none⟩)] w fun e w' => e = .returned (.int .i64 r1) ∧ qd w0 w' g s0_0 r2 r3 ∧ Below w0.heap.size w0 w' ∧ qh w w' g none := by
 have HI0 := qb.mk hI
 have HK := qb.mk (qh.refl w g none)
 have HL := qb.mk hB.size
 clear hI
 have HW0 := qb.mk hB.size
 have HB := qb.mk hB
 clear hB
 have H : (if s0_1 < (s0_0.length : Int) then (if 0 ≤ s0_1 then (if (wrap64 (s0_1 + 1)) ≤ (s0_0.length : Int) then (some (wrap64 (rd s0_0 s0_1), wrap64 (s0_1 + 1), IntKind.u64.wrap ((IntKind.u64.wrap ((IntKind.u64.wrap (s0_2 * 6364136223846793005)) + (IntKind.u64.wrap (wrap64 (rd s0_0 s0_1))))) + 1442695040888963407))) else (some (wrap64 (Go.bits .and .u64 ((IntKind.u64.wrap ((IntKind.u64.wrap ((IntKind.u64.wrap (s0_2 * 6364136223846793005)) + (IntKind.u64.wrap (wrap64 (rd s0_0 s0_1))))) + 1442695040888963407)) / 1099511627776) 255), wrap64 (s0_1 + 1), IntKind.u64.wrap ((IntKind.u64.wrap ((IntKind.u64.wrap (s0_2 * 6364136223846793005)) + (IntKind.u64.wrap (wrap64 (rd s0_0 s0_1))))) + 1442695040888963407)))) else (none)) else (if (wrap64 (s0_1 + 1)) ≤ (s0_0.length : Int) then (some (0, wrap64 (s0_1 + 1), IntKind.u64.wrap ((IntKind.u64.wrap (IntKind.u64.wrap (s0_2 * 6364136223846793005))) + 1442695040888963407))) else (some (wrap64 (Go.bits .and .u64 ((IntKind.u64.wrap ((IntKind.u64.wrap (IntKind.u64.wrap (s0_2 * 6364136223846793005))) + 1442695040888963407)) / 1099511627776) 255), wrap64 (s0_1 + 1), IntKind.u64.wrap ((IntKind.u64.wrap (IntKind.u64.wrap (s0_2 * 6364136223846793005))) + 1442695040888963407))))) = some (r1, r2, r3) := h
 clear h
 by_cases c2 : s0_1 < (s0_0.length : Int)
 ·rw [if_pos c2] at H
  have c2b0 : decide (s0_1 < (s0_0.length : Int)) = true := decide_eq_true c2
  clear c2
  by_cases c3 : 0 ≤ s0_1
  ·rw [if_pos c3] at H
   have c3b0 : decide (0 ≤ s0_1) = true := decide_eq_true c3
   clear c3
   by_cases c4 : (wrap64 (s0_1 + 1)) ≤ (s0_0.length : Int)
   ·rw [if_pos c4] at H
    have c4b0 : decide ((wrap64 (s0_1 + 1)) ≤ (s0_0.length : Int)) = true := decide_eq_true c4
    clear c4
    simp only [Option.some.injEq, Prod.mk.injEq] at H
    obtain ⟨rfl, rfl, rfl⟩ := H
    obtain ⟨ASz5_0, cSz5_0, HGz5, hgz5, HSz5_0⟩ := HI0.out
    have hcz5_0 := cellS79_0 HGz5
    have hcz5_1 := cellS79_1 HGz5
    have hcz5_2 := cellS79_2 HGz5
    have hfz5_1 := qp HGz5 1
    have hfz5_2 := qp HGz5 2
    clear HGz5 hgz5
    have p267 : 0 ≤ (s0_1 : Int) := of_decide_eq_true (by first | (with_reducible assumption) | assumption)
    have q267 : s0_1 < (s0_0.length : Int) := of_decide_eq_true (by first | (with_reducible assumption) | assumption)
    obtain ⟨ad267, e267, hx267_0⟩ := Kd.at_int HSz5_0 s0_1 p267 q267
    cases e267
    replace hx267_0 := qJc HB.out hx267_0
    replace p267 := eq_true p267
    replace q267 := eq_true q267
    go_enter Try.func103, Try.ntmps103
    go_wp2
    repeat (go_quiet (fail); try go_wp2)
    go_ret
    exact ⟨by first | rfl | (simp [qv, qu] <;> rfl) | (simp [*, qv, qu] <;> rfl), by repeat (first | (with_reducible first | exact HI0.out | apply qd.alloc | apply qd.drewN | apply qd.drew | apply qd.set_1 | apply qd.set_2) | exact HI0.out), by repeat (first | (with_reducible first | exact HB.out | apply qf | apply qg | apply qe | refine qk ?_ (qd.ge HI0.out)) | exact HB.out), by repeat (first | (with_reducible first | exact HK.out | apply qh.set_ | apply qr | apply qq | apply qt) | exact HK.out)⟩
   ·rw [if_neg c4] at H
    have c4b0 : decide ((wrap64 (s0_1 + 1)) ≤ (s0_0.length : Int)) = false := decide_eq_false c4
    clear c4
    simp only [Option.some.injEq, Prod.mk.injEq] at H
    obtain ⟨rfl, rfl, rfl⟩ := H
    obtain ⟨ASz6_0, cSz6_0, HGz6, hgz6, HSz6_0⟩ := HI0.out
    have hcz6_0 := cellS79_0 HGz6
    have hcz6_1 := cellS79_1 HGz6
    have hcz6_2 := cellS79_2 HGz6
    have hfz6_1 := qp HGz6 1
    have hfz6_2 := qp HGz6 2
    clear HGz6 hgz6
    have p267 : 0 ≤ (s0_1 : Int) := of_decide_eq_true (by first | (with_reducible assumption) | assumption)
    have q267 : s0_1 < (s0_0.length : Int) := of_decide_eq_true (by first | (with_reducible assumption) | assumption)
    obtain ⟨ad267, e267, hx267_0⟩ := Kd.at_int HSz6_0 s0_1 p267 q267
    cases e267
    replace hx267_0 := qJc HB.out hx267_0
    replace p267 := eq_true p267
    replace q267 := eq_true q267
    go_enter Try.func103, Try.ntmps103
    go_wp2
    repeat (go_quiet (fail); try go_wp2)
    go_ret
    exact ⟨by first | rfl | (simp [qv, qu] <;> rfl) | (simp [*, qv, qu] <;> rfl), by repeat (first | (with_reducible first | exact HI0.out | apply qd.alloc | apply qd.drewN | apply qd.drew | apply qd.set_1 | apply qd.set_2) | exact HI0.out), by repeat (first | (with_reducible first | exact HB.out | apply qf | apply qg | apply qe | refine qk ?_ (qd.ge HI0.out)) | exact HB.out), by repeat (first | (with_reducible first | exact HK.out | apply qh.set_ | apply qr | apply qq | apply qt) | exact HK.out)⟩
  ·rw [if_neg c3] at H
   exact absurd H (by simp)
 ·rw [if_neg c2] at H
  have c2b0 : decide (s0_1 < (s0_0.length : Int)) = false := decide_eq_false c2
  clear c2
  by_cases c7 : (wrap64 (s0_1 + 1)) ≤ (s0_0.length : Int)
  ·rw [if_pos c7] at H
   have c7b0 : decide ((wrap64 (s0_1 + 1)) ≤ (s0_0.length : Int)) = true := decide_eq_true c7
   clear c7
   simp only [Option.some.injEq, Prod.mk.injEq] at H
   obtain ⟨rfl, rfl, rfl⟩ := H
   obtain ⟨ASz8_0, cSz8_0, HGz8, hgz8, HSz8_0⟩ := HI0.out
   have hcz8_0 := cellS79_0 HGz8
   have hcz8_1 := cellS79_1 HGz8
   have hcz8_2 := cellS79_2 HGz8
   have hfz8_1 := qp HGz8 1
   have hfz8_2 := qp HGz8 2
   clear HGz8 hgz8
   go_enter Try.func103, Try.ntmps103
   go_wp2
   repeat (go_quiet (fail); try go_wp2)
   go_ret
   exact ⟨by first | rfl | (simp [qv, qu] <;> rfl) | (simp [*, qv, qu] <;> rfl), by repeat (first | (with_reducible first | exact HI0.out | apply qd.alloc | apply qd.drewN | apply qd.drew | apply qd.set_1 | apply qd.set_2) | exact HI0.out), by repeat (first | (with_reducible first | exact HB.out | apply qf | apply qg | apply qe | refine qk ?_ (qd.ge HI0.out)) | exact HB.out), by repeat (first | (with_reducible first | exact HK.out | apply qh.set_ | apply qr | apply qq | apply qt) | exact HK.out)⟩
  ·rw [if_neg c7] at H
   have c7b0 : decide ((wrap64 (s0_1 + 1)) ≤ (s0_0.length : Int)) = false := decide_eq_false c7
   clear c7
   simp only [Option.some.injEq, Prod.mk.injEq] at H
   obtain ⟨rfl, rfl, rfl⟩ := H
   obtain ⟨ASz9_0, cSz9_0, HGz9, hgz9, HSz9_0⟩ := HI0.out
   have hcz9_0 := cellS79_0 HGz9
   have hcz9_1 := cellS79_1 HGz9
   have hcz9_2 := cellS79_2 HGz9
   have hfz9_1 := qp HGz9 1
   have hfz9_2 := qp HGz9 2
   clear HGz9 hgz9
   go_enter Try.func103, Try.ntmps103
   go_wp2
   repeat (go_quiet (fail); try go_wp2)
   go_ret
   exact ⟨by first | rfl | (simp [qv, qu] <;> rfl) | (simp [*, qv, qu] <;> rfl), by repeat (first | (with_reducible first | exact HI0.out | apply qd.alloc | apply qd.drewN | apply qd.drew | apply qd.set_1 | apply qd.set_2) | exact HI0.out), by repeat (first | (with_reducible first | exact HB.out | apply qf | apply qg | apply qe | refine qk ?_ (qd.ge HI0.out)) | exact HB.out), by repeat (first | (with_reducible first | exact HK.out | apply qh.set_ | apply qr | apply qq | apply qt) | exact HK.out)⟩

/-! ### qK: function 86 -/
def qK.f (s0_0 : List Int) (s0_1 : Int) (s0_2 : Int) (a1 : Int) : Option (Int × Int × Int) := if a1 ≤ 1 then (some (0, s0_1, s0_2)) else ((qjc.f s0_0 s0_1 s0_2).bind fun bt268 => (if a1 > 200 then ((qjc.f s0_0 bt268.2.1 bt268.2.2).bind fun bt271 => (if a1 = 0 then (none) else (some (Int.tmod (wrap64 ((wrap64 (bt268.1 * 256)) + bt271.1)) a1, bt271.2.1, bt271.2.2)))) else (if a1 = 0 then (none) else (some (Int.tmod bt268.1 a1, bt268.2.1, bt268.2.2)))))
set_option maxHeartbeats 8000000 in
set_option maxRecDepth 100000 in
theorem qK.calls (g : Nat) (s0_0 : List Int) (s0_1 : Int) (s0_2 : Int) (a1 : Int) (r1 : Int) (r2 : Int) (r3 : Int) (w0 w : World) (hI : qd w0 w g s0_0 s0_1 s0_2) (hB : Below w0.heap.size w0 w) (h : qK.f s0_0 s0_1 s0_2 a1 = some (r1, r2, r3)) :
  Calls Try.prog 86 #[.pointer (some ⟨g, 0, none⟩), .int .i64 a1] w fun e w' => e = .returned (.int .i64 r1) ∧ qd w0 w' g s0_0 r2 r3 ∧ Below w0.heap.size w0 w' ∧ qh w w' g none := by
 have HI0 := qb.mk hI
 have HK := qb.mk (qh.refl w g none)
 have HL := qb.mk hB.size
 clear hI
 have HW0 := qb.mk hB.size
 have HB := qb.mk hB
 clear hB
 have H : (if a1 ≤ 1 then (some (0, s0_1, s0_2)) else ((qjc.f s0_0 s0_1 s0_2).bind fun bt268 => (if a1 > 200 then ((qjc.f s0_0 bt268.2.1 bt268.2.2).bind fun bt271 => (if a1 = 0 then (none) else (some (Int.tmod (wrap64 ((wrap64 (bt268.1 * 256)) + bt271.1)) a1, bt271.2.1, bt271.2.2)))) else (if a1 = 0 then (none) else (some (Int.tmod bt268.1 a1, bt268.2.1, bt268.2.2)))))) = some (r1, r2, r3) := h
 clear h
 by_cases c3 : a1 ≤ 1
 ·rw [if_pos c3] at H
  have c3b0 : decide (a1 ≤ 1) = true := decide_eq_true c3
  clear c3
  simp only [Option.some.injEq, Prod.mk.injEq] at H
  obtain ⟨rfl, rfl, rfl⟩ := H
  go_enter Try.func86, Try.ntmps86
  go_wp2
  go_ret
  exact ⟨by first | rfl | (simp [qv, qu] <;> rfl) | (simp [*, qv, qu] <;> rfl), by repeat (first | (with_reducible first | exact HI0.out | apply qd.alloc | apply qd.drewN | apply qd.drew | apply qd.set_1 | apply qd.set_2) | exact HI0.out), by repeat (first | (with_reducible first | exact HB.out | apply qf | apply qg | apply qe | refine qk ?_ (qd.ge HI0.out)) | exact HB.out), by repeat (first | (with_reducible first | exact HK.out | apply qh.set_ | apply qr | apply qq | apply qt) | exact HK.out)⟩
 ·rw [if_neg c3] at H
  have c3b0 : decide (a1 ≤ 1) = false := decide_eq_false c3
  clear c3
  replace H := Option.bind_eq_some_iff.mp H
  obtain ⟨⟨t268, t269, t270⟩, A40, H⟩ := H
  try dsimp only at H
  have A4 := qb.mk A40
  clear A40
  by_cases c5 : a1 > 200
  ·rw [if_pos c5] at H
   have c5b0 : decide (200 < a1) = true := decide_eq_true c5
   clear c5
   replace H := Option.bind_eq_some_iff.mp H
   obtain ⟨⟨t271, t272, t273⟩, A60, H⟩ := H
   try dsimp only at H
   have A6 := qb.mk A60
   clear A60
   by_cases c7 : a1 = 0
   ·rw [if_pos c7] at H
    exact absurd H (by simp)
   ·rw [if_neg c7] at H
    have c7b0 : (a1 == 0) = false := beq_eq_false_iff_ne.mpr c7
    have c7b1 : (a1 != 0) = true := bne_iff_ne.mpr c7
    simp only [Option.some.injEq, Prod.mk.injEq] at H
    obtain ⟨rfl, rfl, rfl⟩ := H
    go_enter Try.func86, Try.ntmps86
    go_wp2_with (first | ((with_reducible refine qy (f := 103) rfl ?_); refine qz (some 9) rfl rfl Try.func103 (by kernel_rfl) rfl #[.pointer (some ⟨g, 0, none⟩)] rfl (by (try simp only [List.map_toArray, List.map_cons, List.map_nil]); first | done | rfl | (simp only [List.length_drop, List.length_take]; rfl)) ?_; (with_reducible refine (qjc.calls g s0_0 s0_1 s0_2 t268 t269 t270 w0 _ ?side1 ?side2 A4.out).mono ?_); (case side1 => repeat (first | (with_reducible first | exact HI0.out | apply qd.alloc | apply qd.drewN | apply qd.drew | apply qd.set_1 | apply qd.set_2) | exact HI0.out)); (case side2 => repeat (first | (with_reducible first | exact HB.out | apply qf | apply qg | apply qe | refine qk ?_ (qd.ge HI0.out)) | exact HB.out)); rintro e w8 ⟨rfl, hi, hb, hk⟩; refine ⟨_, rfl, ?_⟩; replace HK := qb.mk (qh.trans (by repeat (first | (with_reducible first | exact HK.out | apply qh.set_ | apply qr | apply qq | apply qt) | exact HK.out)) hk (.inl rfl)); replace HB := qb.mk (hb); replace HI0 := qb.mk (hi); (try clear hb); (try clear hb2); (try clear hk); (try clear hi)) | ((with_reducible refine qy (f := 103) rfl ?_); refine qz (some 15) rfl rfl Try.func103 (by kernel_rfl) rfl #[.pointer (some ⟨g, 0, none⟩)] rfl (by (try simp only [List.map_toArray, List.map_cons, List.map_nil]); first | done | rfl | (simp only [List.length_drop, List.length_take]; rfl)) ?_; (with_reducible refine (qjc.calls g s0_0 t269 t270 t271 t272 t273 w0 _ ?side1 ?side2 A6.out).mono ?_); (case side1 => repeat (first | (with_reducible first | exact HI0.out | apply qd.alloc | apply qd.drewN | apply qd.drew | apply qd.set_1 | apply qd.set_2) | exact HI0.out)); (case side2 => repeat (first | (with_reducible first | exact HB.out | apply qf | apply qg | apply qe | refine qk ?_ (qd.ge HI0.out)) | exact HB.out)); rintro e w9 ⟨rfl, hi, hb, hk⟩; refine ⟨_, rfl, ?_⟩; replace HK := qb.mk (qh.trans (by repeat (first | (with_reducible first | exact HK.out | apply qh.set_ | apply qr | apply qq | apply qt) | exact HK.out)) hk (.inl rfl)); replace HB := qb.mk (hb); replace HI0 := qb.mk (hi); (try clear hb); (try clear hb2); (try clear hk); (try clear hi)))
    go_ret
    exact ⟨by first | rfl | (simp [qv, qu] <;> rfl) | (simp [*, qv, qu] <;> rfl), by repeat (first | (with_reducible first | exact HI0.out | apply qd.alloc | apply qd.drewN | apply qd.drew | apply qd.set_1 | apply qd.set_2) | exact HI0.out), by repeat (first | (with_reducible first | exact HB.out | apply qf | apply qg | apply qe | refine qk ?_ (qd.ge HI0.out)) | exact HB.out), by repeat (first | (with_reducible first | exact HK.out | apply qh.set_ | apply qr | apply qq | apply qt) | exact HK.out)⟩
  ·rw [if_neg c5] at H
   have c5b0 : decide (200 < a1) = false := decide_eq_false c5
   clear c5
   by_cases c10 : a1 = 0
   ·rw [if_pos c10] at H
    exact absurd H (by simp)
   ·rw [if_neg c10] at H
    have c10b0 : (a1 == 0) = false := beq_eq_false_iff_ne.mpr c10
    have c10b1 : (a1 != 0) = true := bne_iff_ne.mpr c10
    simp only [Option.some.injEq, Prod.mk.injEq] at H
    obtain ⟨rfl, rfl, rfl⟩ := H
    go_enter Try.func86, Try.ntmps86
    go_wp2_with (first | ((with_reducible refine qy (f := 103) rfl ?_); refine qz (some 9) rfl rfl Try.func103 (by kernel_rfl) rfl #[.pointer (some ⟨g, 0, none⟩)] rfl (by (try simp only [List.map_toArray, List.map_cons, List.map_nil]); first | done | rfl | (simp only [List.length_drop, List.length_take]; rfl)) ?_; (with_reducible refine (qjc.calls g s0_0 s0_1 s0_2 t268 t269 t270 w0 _ ?side1 ?side2 A4.out).mono ?_); (case side1 => repeat (first | (with_reducible first | exact HI0.out | apply qd.alloc | apply qd.drewN | apply qd.drew | apply qd.set_1 | apply qd.set_2) | exact HI0.out)); (case side2 => repeat (first | (with_reducible first | exact HB.out | apply qf | apply qg | apply qe | refine qk ?_ (qd.ge HI0.out)) | exact HB.out)); rintro e w11 ⟨rfl, hi, hb, hk⟩; refine ⟨_, rfl, ?_⟩; replace HK := qb.mk (qh.trans (by repeat (first | (with_reducible first | exact HK.out | apply qh.set_ | apply qr | apply qq | apply qt) | exact HK.out)) hk (.inl rfl)); replace HB := qb.mk (hb); replace HI0 := qb.mk (hi); (try clear hb); (try clear hb2); (try clear hk); (try clear hi)))
    go_ret
    exact ⟨by first | rfl | (simp [qv, qu] <;> rfl) | (simp [*, qv, qu] <;> rfl), by repeat (first | (with_reducible first | exact HI0.out | apply qd.alloc | apply qd.drewN | apply qd.drew | apply qd.set_1 | apply qd.set_2) | exact HI0.out), by repeat (first | (with_reducible first | exact HB.out | apply qf | apply qg | apply qe | refine qk ?_ (qd.ge HI0.out)) | exact HB.out), by repeat (first | (with_reducible first | exact HK.out | apply qh.set_ | apply qr | apply qq | apply qt) | exact HK.out)⟩

/-! ### qzc: function 90 -/
def qzc.f (s0_0 : List Int) (s0_1 : Int) (s0_2 : Int) (l1 : List ByteArray) : Option (ByteArray × Int × Int) := (qK.f s0_0 s0_1 s0_2 (l1.length : Int)).bind fun bt274 => (if 0 ≤ bt274.1 then (if bt274.1 < (l1.length : Int) then (some (rdOf ByteArray.empty l1 bt274.1, bt274.2.1, bt274.2.2)) else (none)) else (none))
set_option maxHeartbeats 8000000 in
set_option maxRecDepth 100000 in
theorem qzc.calls (g : Nat) (s0_0 : List Int) (s0_1 : Int) (s0_2 : Int) (A1 : Option Addr) (c1 : Nat) (l1 : List ByteArray) (r1 : ByteArray) (r2 : Int) (r3 : Int) (w0 w : World) (hI : qd w0 w g s0_0 s0_1 s0_2) (hB : Below w0.heap.size w0 w) (hr1 : Kd.C Kd.string w A1 l1.length l1) (hc1 : l1.length ≤ c1) (hf1 : ∀ ad, A1 = some ad → 0 < l1.length → ad.block ≠ g) (h : qzc.f s0_0 s0_1 s0_2 l1 = some (r1, r2, r3)) :
  Calls Try.prog 90 #[.pointer (some ⟨g, 0, none⟩), .slice A1 l1.length c1] w fun e w' => e = .returned (.string r1) ∧ qd w0 w' g s0_0 r2 r3 ∧ Below w0.heap.size w0 w' ∧ qh w w' g none := by
 have HR1 := qb.mk hr1
 have HC1 := qb.mk hc1
 clear hr1 hc1
 have HI0 := qb.mk hI
 have HK := qb.mk (qh.refl w g none)
 have HL := qb.mk hB.size
 clear hI
 have HW0 := qb.mk hB.size
 have HB := qb.mk hB
 clear hB
 have H : ((qK.f s0_0 s0_1 s0_2 (l1.length : Int)).bind fun bt274 => (if 0 ≤ bt274.1 then (if bt274.1 < (l1.length : Int) then (some (rdOf ByteArray.empty l1 bt274.1, bt274.2.1, bt274.2.2)) else (none)) else (none))) = some (r1, r2, r3) := h
 clear h
 replace H := Option.bind_eq_some_iff.mp H
 obtain ⟨⟨t274, t275, t276⟩, A30, H⟩ := H
 try dsimp only at H
 have A3 := qb.mk A30
 clear A30
 by_cases c4 : 0 ≤ t274
 ·rw [if_pos c4] at H
  have c4b0 : decide (0 ≤ t274) = true := decide_eq_true c4
  clear c4
  by_cases c5 : t274 < (l1.length : Int)
  ·rw [if_pos c5] at H
   have c5b0 : decide (t274 < (l1.length : Int)) = true := decide_eq_true c5
   clear c5
   simp only [Option.some.injEq, Prod.mk.injEq] at H
   obtain ⟨rfl, rfl, rfl⟩ := H
   go_enter Try.func90, Try.ntmps90
   go_wp2_with (first | ((with_reducible refine qy (f := 86) rfl ?_); refine qz (some 9) rfl rfl Try.func86 (by kernel_rfl) rfl #[.pointer (some ⟨g, 0, none⟩), .int .i64 (l1.length : Int)] rfl (by (try simp only [List.map_toArray, List.map_cons, List.map_nil]); first | done | rfl | (simp only [List.length_drop, List.length_take]; rfl)) ?_; (with_reducible refine (qK.calls g s0_0 s0_1 s0_2 (l1.length : Int) t274 t275 t276 w0 _ ?side1 ?side2 A3.out).mono ?_); (case side1 => repeat (first | (with_reducible first | exact HI0.out | apply qd.alloc | apply qd.drewN | apply qd.drew | apply qd.set_1 | apply qd.set_2) | exact HI0.out)); (case side2 => repeat (first | (with_reducible first | exact HB.out | apply qf | apply qg | apply qe | refine qk ?_ (qd.ge HI0.out)) | exact HB.out)); rintro e w6 ⟨rfl, hi, hb, hk⟩; refine ⟨_, rfl, ?_⟩; replace HK := qb.mk (qh.trans (by repeat (first | (with_reducible first | exact HK.out | apply qh.set_ | apply qr | apply qq | apply qt) | exact HK.out)) hk (.inl rfl)); replace HB := qb.mk (hb); replace HI0 := qb.mk (hi); (try clear hb); (try clear hb2); (try clear hk); (try clear hi); have p277 : 0 ≤ (t274 : Int) := of_decide_eq_true (by first | (with_reducible assumption) | assumption); have q277 : t274 < (l1.length : Int) := of_decide_eq_true (by first | (with_reducible assumption) | assumption); obtain ⟨ad277, e277, hx277_0⟩ := Kd.at_string HR1.out t274 p277 q277; cases e277; replace hx277_0 := keep_cell HK.out hx277_0 (by first | (rw [add_block]; exact hf1 _ rfl (by omega)) | exact hf1 _ rfl (by omega) | exact hf1 ad277 rfl (by omega)); replace p277 := eq_true p277; replace q277 := eq_true q277))
   go_ret
   exact ⟨by first | rfl | (simp [qv, qu] <;> rfl) | (simp [*, qv, qu] <;> rfl), by repeat (first | (with_reducible first | exact HI0.out | apply qd.alloc | apply qd.drewN | apply qd.drew | apply qd.set_1 | apply qd.set_2) | exact HI0.out), by repeat (first | (with_reducible first | exact HB.out | apply qf | apply qg | apply qe | refine qk ?_ (qd.ge HI0.out)) | exact HB.out), by repeat (first | (with_reducible first | exact HK.out | apply qh.set_ | apply qr | apply qq | apply qt) | exact HK.out)⟩
  ·rw [if_neg c5] at H
   exact absurd H (by simp)
 ·rw [if_neg c4] at H
  exact absurd H (by simp)

/-! ### qAc: function 91 -/
def qAc.f (s0_0 : List Int) (s0_1 : Int) (s0_2 : Int) (a1 : Int) : Option (Bool × Int × Int) := (qK.f s0_0 s0_1 s0_2 a1).bind fun bt278 => (some ((bt278.1 == 0), bt278.2.1, bt278.2.2))
set_option maxHeartbeats 8000000 in
set_option maxRecDepth 100000 in
theorem qAc.calls (g : Nat) (s0_0 : List Int) (s0_1 : Int) (s0_2 : Int) (a1 : Int) (r1 : Bool) (r2 : Int) (r3 : Int) (w0 w : World) (hI : qd w0 w g s0_0 s0_1 s0_2) (hB : Below w0.heap.size w0 w) (h : qAc.f s0_0 s0_1 s0_2 a1 = some (r1, r2, r3)) :
  Calls Try.prog 91 #[.pointer (some ⟨g, 0, none⟩), .int .i64 a1] w fun e w' => e = .returned (.bool r1) ∧ qd w0 w' g s0_0 r2 r3 ∧ Below w0.heap.size w0 w' ∧ qh w w' g none := by
 have HI0 := qb.mk hI
 have HK := qb.mk (qh.refl w g none)
 have HL := qb.mk hB.size
 clear hI
 have HW0 := qb.mk hB.size
 have HB := qb.mk hB
 clear hB
 have H : ((qK.f s0_0 s0_1 s0_2 a1).bind fun bt278 => (some ((bt278.1 == 0), bt278.2.1, bt278.2.2))) = some (r1, r2, r3) := h
 clear h
 replace H := Option.bind_eq_some_iff.mp H
 obtain ⟨⟨t278, t279, t280⟩, A30, H⟩ := H
 try dsimp only at H
 have A3 := qb.mk A30
 clear A30
 simp only [Option.some.injEq, Prod.mk.injEq] at H
 obtain ⟨rfl, rfl, rfl⟩ := H
 go_enter Try.func91, Try.ntmps91
 go_wp2_with (first | ((with_reducible refine qy (f := 86) rfl ?_); refine qz (some 7) rfl rfl Try.func86 (by kernel_rfl) rfl #[.pointer (some ⟨g, 0, none⟩), .int .i64 a1] rfl (by (try simp only [List.map_toArray, List.map_cons, List.map_nil]); first | done | rfl | (simp only [List.length_drop, List.length_take]; rfl)) ?_; (with_reducible refine (qK.calls g s0_0 s0_1 s0_2 a1 t278 t279 t280 w0 _ ?side1 ?side2 A3.out).mono ?_); (case side1 => repeat (first | (with_reducible first | exact HI0.out | apply qd.alloc | apply qd.drewN | apply qd.drew | apply qd.set_1 | apply qd.set_2) | exact HI0.out)); (case side2 => repeat (first | (with_reducible first | exact HB.out | apply qf | apply qg | apply qe | refine qk ?_ (qd.ge HI0.out)) | exact HB.out)); rintro e w4 ⟨rfl, hi, hb, hk⟩; refine ⟨_, rfl, ?_⟩; replace HK := qb.mk (qh.trans (by repeat (first | (with_reducible first | exact HK.out | apply qh.set_ | apply qr | apply qq | apply qt) | exact HK.out)) hk (.inl rfl)); replace HB := qb.mk (hb); replace HI0 := qb.mk (hi); (try clear hb); (try clear hb2); (try clear hk); (try clear hi)))
 go_ret
 exact ⟨by first | rfl | (simp [qv, qu] <;> rfl) | (simp [*, qv, qu] <;> rfl), by repeat (first | (with_reducible first | exact HI0.out | apply qd.alloc | apply qd.drewN | apply qd.drew | apply qd.set_1 | apply qd.set_2) | exact HI0.out), by repeat (first | (with_reducible first | exact HB.out | apply qf | apply qg | apply qe | refine qk ?_ (qd.ge HI0.out)) | exact HB.out), by repeat (first | (with_reducible first | exact HK.out | apply qh.set_ | apply qr | apply qq | apply qt) | exact HK.out)⟩

/-! ### qZ: function 70 -/
def qZ.l0 : Nat → ByteArray → Int → List Int → Int → Int → Option (ByteArray × Int × Int)
 | 0, _, _, _, _, _ => none
 | k + 1, x3, x4, x1000, x1001, x1002 => if x4 > 0 then ((qzc.f x1000 x1001 x1002 (([(⟨#[97, 98, 99]⟩ : ByteArray), (⟨#[97]⟩ : ByteArray), (⟨#[120, 121, 122]⟩ : ByteArray), (⟨#[97, 98, 99, 97, 98, 99]⟩ : ByteArray), (⟨#[45, 45]⟩ : ByteArray), (⟨#[113]⟩ : ByteArray)] : List ByteArray))).bind fun bt287 => (if x3.size + bt287.1.size ≤ 9223372036854775807 then (qZ.l0 k (x3 ++ bt287.1) (wrap64 (x4 - 1)) x1000 bt287.2.1 bt287.2.2) else (none))) else ((qAc.f x1000 x1001 x1002 30).bind fun bt290 => (if bt290.1 = true then ((qK.f x1000 bt290.2.1 bt290.2.2 2).bind fun bt293 => (if 0 ≤ (wrap64 (300 + bt293.1)) then (if (wrap64 (300 + bt293.1) : Int).toNat ≤ 281474976710656 then (some (strOfNums (List.replicate (wrap64 (300 + bt293.1) : Int).toNat 0), bt293.2.1, bt293.2.2)) else (none)) else (none))) else (some (x3, bt290.2.1, bt290.2.2))))
def qZ.f (k : Nat) (s0_0 : List Int) (s0_1 : Int) (s0_2 : Int) : Option (ByteArray × Int × Int) := (qK.f s0_0 s0_1 s0_2 6).bind fun bt281 => (qZ.l0 k (⟨#[]⟩ : ByteArray) bt281.1 s0_0 bt281.2.1 bt281.2.2)
theorem qZ.qjb : ∀ k, (∀ y0 y1 y2 y3 y4, LeO (qZ.l0 k y0 y1 y2 y3 y4) (qZ.l0 (k + 1) y0 y1 y2 y3 y4))
 | 0 => fun _ _ _ _ _ r h => by simp [qZ.l0] at h
 | k + 1 => by
  have ih0 := qZ.qjb k
  ·intro y0 y1 y2 y3 y4
   unfold qZ.l0
   repeat' first
   | (with_reducible exact ih0 _ _ _ _ _)
   | (with_reducible exact LeO.refl _)
   | (with_reducible exact LeO.none _)
   | (with_reducible refine LeO.ite ?_ ?_)
   | (with_reducible refine LeO.bind ?_ (fun _ => ?_))
   | exact LeO.none _
   | refine LeO.ite ?_ ?_
   | refine LeO.bind ?_ (fun _ => ?_)
theorem qZ.mono : ∀ a0 a1 a2 k, LeO (qZ.f k a0 a1 a2) (qZ.f (k + 1) a0 a1 a2) := by
 intro a0 a1 a2 k
 have ih0 := qZ.qjb k
 unfold qZ.f
 repeat' first
   | (with_reducible exact ih0 _ _ _ _ _)
   | (with_reducible exact LeO.refl _)
   | (with_reducible exact LeO.none _)
   | (with_reducible refine LeO.ite ?_ ?_)
   | (with_reducible refine LeO.bind ?_ (fun _ => ?_))
   | exact LeO.none _
   | refine LeO.ite ?_ ?_
   | refine LeO.bind ?_ (fun _ => ?_)
set_option maxHeartbeats 8000000 in
set_option maxRecDepth 100000 in
theorem qZ.calls (k : Nat) (g : Nat) (s0_0 : List Int) (s0_1 : Int) (s0_2 : Int) (r1 : ByteArray) (r2 : Int) (r3 : Int) (w0 w : World) (hI : qd w0 w g s0_0 s0_1 s0_2) (hB : Below w0.heap.size w0 w) (h : qZ.f k s0_0 s0_1 s0_2 = some (r1, r2, r3)) :
  Calls Try.prog 70 #[.pointer (some ⟨g, 0, none⟩)] w fun e w' => e = .returned (.string r1) ∧ qd w0 w' g s0_0 r2 r3 ∧ Below w0.heap.size w0 w' ∧ qh w w' g none := by
 have HI0 := qb.mk hI
 have HK := qb.mk (qh.refl w g none)
 have HL := qb.mk hB.size
 clear hI
 have HW0 := qb.mk hB.size
 have HB := qb.mk hB
 clear hB
 have H : ((qK.f s0_0 s0_1 s0_2 6).bind fun bt281 => (qZ.l0 k (⟨#[]⟩ : ByteArray) bt281.1 s0_0 bt281.2.1 bt281.2.2)) = some (r1, r2, r3) := h
 clear h
 replace H := Option.bind_eq_some_iff.mp H
 obtain ⟨⟨t281, t282, t283⟩, A20, H⟩ := H
 try dsimp only at H
 have A2 := qb.mk A20
 clear A20
 have H' := qb.mk H
 clear H
 go_enter Try.func70, Try.ntmps70
 go_wp2_with (first | ((with_reducible refine qy (f := 86) rfl ?_); refine qz (some 6) rfl rfl Try.func86 (by kernel_rfl) rfl #[.pointer (some ⟨g, 0, none⟩), .int .i64 6] rfl (by (try simp only [List.map_toArray, List.map_cons, List.map_nil]); first | done | rfl | (simp only [List.length_drop, List.length_take]; rfl)) ?_; (with_reducible refine (qK.calls g s0_0 s0_1 s0_2 6 t281 t282 t283 w0 _ ?side1 ?side2 A2.out).mono ?_); (case side1 => repeat (first | (with_reducible first | exact HI0.out | apply qd.alloc | apply qd.drewN | apply qd.drew | apply qd.set_1 | apply qd.set_2) | exact HI0.out)); (case side2 => repeat (first | (with_reducible first | exact HB.out | apply qf | apply qg | apply qe | refine qk ?_ (qd.ge HI0.out)) | exact HB.out)); rintro e w3 ⟨rfl, hi, hb, hk⟩; refine ⟨_, rfl, ?_⟩; replace HK := qb.mk (qh.trans (by repeat (first | (with_reducible first | exact HK.out | apply qh.set_ | apply qr | apply qq | apply qt) | exact HK.out)) hk (.inl rfl)); replace HB := qb.mk (hb); replace HI0 := qb.mk (hi); (try clear hb); (try clear hb2); (try clear hk); (try clear hi)))
 go_loopg [3, 4] k (fun kq v3 v4 w' => ∃ (x3_1 : ByteArray) (x4_1 : Int) (x1001_1 : Int) (x1002_1 : Int), v3 = .string x3_1 ∧ v4 = .int .i64 x4_1 ∧ qb (qZ.l0 kq x3_1 x4_1 s0_0 x1001_1 x1002_1 = some (r1, r2, r3)) ∧ qb (kq ≤ k) ∧ qb (qd w0 w' g s0_0 x1001_1 x1002_1) ∧ qb (qh w w' g none) ∧ qb (Below w0.heap.size w0 w'))
 case atStart => exact ⟨((⟨#[]⟩ : ByteArray)), (t281), (t282), (t283), (by first | rfl | (simp; done) | (simp [*]; done)), (by first | rfl | (simp; done) | (simp [*]; done)), H', ⟨Nat.le_refl _⟩, ⟨by repeat (first | (with_reducible first | exact HI0.out | apply qd.alloc | apply qd.drewN | apply qd.drew | apply qd.set_1 | apply qd.set_2) | exact HI0.out)⟩, ⟨by repeat (first | (with_reducible first | exact HK.out | apply qh.set_ | apply qr | apply qq | apply qt) | exact HK.out)⟩, ⟨by repeat (first | (with_reducible first | exact HB.out | apply qf | apply qg | apply qe | refine qk ?_ (qd.ge HI0.out)) | exact HB.out)⟩⟩
 case round =>
  clear H'
  try clear p2
  obtain ⟨x3_1, x4_1, x1001_1, x1002_1, rfl, rfl, HA, HK1, HI0, HK, HB⟩ := hrel
  cases gk with
  | zero => exact absurd HA.out (by simp [qZ.l0])
  | succ k1 =>
   have H := HA.out
   clear HA
   simp only [qZ.l0] at H
   by_cases c4 : x4_1 > 0
   ·rw [if_pos c4] at H
    have c4b0 : decide (0 < x4_1) = true := decide_eq_true c4
    clear c4
    obtain ⟨y284, hy284⟩ : ∃ y_ : List ByteArray, y_ = (([(⟨#[97, 98, 99]⟩ : ByteArray), (⟨#[97]⟩ : ByteArray), (⟨#[120, 121, 122]⟩ : ByteArray), (⟨#[97, 98, 99, 97, 98, 99]⟩ : ByteArray), (⟨#[45, 45]⟩ : ByteArray), (⟨#[113]⟩ : ByteArray)] : List ByteArray)) := ⟨_, rfl⟩
    replace H : ((qzc.f s0_0 x1001_1 x1002_1 y284).bind fun bt287 => (if x3_1.size + bt287.1.size ≤ 9223372036854775807 then (qZ.l0 k1 (x3_1 ++ bt287.1) (wrap64 (x4_1 - 1)) s0_0 bt287.2.1 bt287.2.2) else (none))) = some (r1, r2, r3) := by first | (rw [hy284]; with_reducible exact H) | (have H2_ := (Option.bind_some _ _).symm.trans H; rw [hy284]; with_reducible exact H2_) | (have H2_ := (Option.bind_some _ _).symm.trans H; with_reducible exact H2_) | with_reducible exact H | (rw [hy284]; exact H) | exact H
    have Ny284 := qb.mk hy284
    clear hy284
    replace H := Option.bind_eq_some_iff.mp H
    obtain ⟨⟨t287, t288, t289⟩, A50, H⟩ := H
    try dsimp only at H
    have A5 := qb.mk A50
    clear A50
    by_cases c6 : x3_1.size + t287.size ≤ 9223372036854775807
    ·rw [if_pos c6] at H
     have c6b0 := eq_true c6
     have c6b1 : decide (x3_1.size + t287.size ≤ 9223372036854775807) = true := decide_eq_true c6
     try have c6b2 : (9223372036854775807 < x3_1.size + t287.size) = False := eq_false (Nat.not_lt.2 c6)
     have H' := qb.mk H
     clear H
     go_wp2_with (first | ((with_reducible refine qcb (N := 13) rfl ?_); refine Kd.R_lit Kd.string _ 9 ?hg (N := 13) ?hd (xs := ([(⟨#[97, 98, 99]⟩ : ByteArray), (⟨#[97]⟩ : ByteArray), (⟨#[120, 121, 122]⟩ : ByteArray), (⟨#[97, 98, 99, 97, 98, 99]⟩ : ByteArray), (⟨#[45, 45]⟩ : ByteArray), (⟨#[113]⟩ : ByteArray)] : List ByteArray)) (inner := [.string (⟨#[97, 98, 99]⟩ : ByteArray), .string (⟨#[97]⟩ : ByteArray), .string (⟨#[120, 121, 122]⟩ : ByteArray), .string (⟨#[97, 98, 99, 97, 98, 99]⟩ : ByteArray), .string (⟨#[45, 45]⟩ : ByteArray), .string (⟨#[113]⟩ : ByteArray)]) (ok := fun _ => True) (okp := fun _ => True) ?hr ?hp (fun _ hk => hk) trivial (Below.refl _ _) (Nat.le_refl _) (by simp) ?_; (case hd => rfl); (case hg => rfl); (case hr => first | (go_simp; done) | (go_simp; rfl)); (case hp => exact (Reps.one (show Kd.M Kd.string _ _ _ (⟨#[97, 98, 99]⟩ : ByteArray) [.string (⟨#[97, 98, 99]⟩ : ByteArray)] from rfl) (Reps.one (show Kd.M Kd.string _ _ _ (⟨#[97]⟩ : ByteArray) [.string (⟨#[97]⟩ : ByteArray)] from rfl) (Reps.one (show Kd.M Kd.string _ _ _ (⟨#[120, 121, 122]⟩ : ByteArray) [.string (⟨#[120, 121, 122]⟩ : ByteArray)] from rfl) (Reps.one (show Kd.M Kd.string _ _ _ (⟨#[97, 98, 99, 97, 98, 99]⟩ : ByteArray) [.string (⟨#[97, 98, 99, 97, 98, 99]⟩ : ByteArray)] from rfl) (Reps.one (show Kd.M Kd.string _ _ _ (⟨#[45, 45]⟩ : ByteArray) [.string (⟨#[45, 45]⟩ : ByteArray)] from rfl) (Reps.one (show Kd.M Kd.string _ _ _ (⟨#[113]⟩ : ByteArray) [.string (⟨#[113]⟩ : ByteArray)] from rfl) (Reps.none _ _)))))))); intro v285 w7 ho8 hb hg_ hnew_; clear hg_ hnew_; (first | rw [← Ny284.out] at ho8 | (simp only [Int.reduceToNat] at ho8; rw [← Ny284.out] at ho8)); have HO286 := qb.mk (Kd.qU ho8 (qob (w := w) (g := g) (row := none) (by repeat (first | (with_reducible first | exact HK.out | apply qh.set_ | apply qr | apply qq | apply qt) | exact HK.out)))); replace HK := qb.mk (qh.trans (by repeat (first | (with_reducible first | exact HK.out | apply qh.set_ | apply qr | apply qq | apply qt) | exact HK.out)) (qh.of_below hb g none) (.inl rfl)); replace HB := qb.mk (qE (by repeat (first | (with_reducible first | exact HB.out | apply qf | apply qg | apply qe | refine qk ?_ (qd.ge HI0.out)) | exact HB.out)) hb); replace HI0 := qb.mk (qd.below (by repeat (first | (with_reducible first | exact HI0.out | apply qd.alloc | apply qd.drewN | apply qd.drew | apply qd.set_1 | apply qd.set_2) | exact HI0.out)) hb); clear hb ho8; obtain ⟨Ao9, co9, eo9⟩ := Kd.qfb HO286.out; subst eo9) | ((with_reducible refine qy (f := 90) rfl ?_); refine qz (some 14) rfl rfl Try.func90 (by kernel_rfl) rfl #[.pointer (some ⟨g, 0, none⟩), .slice Ao9 y284.length co9] rfl (by (try simp only [List.map_toArray, List.map_cons, List.map_nil]); first | done | rfl | (simp only [List.length_drop, List.length_take]; rfl)) ?_; (with_reducible refine (qzc.calls g s0_0 x1001_1 x1002_1 _ _ y284 t287 t288 t289 w0 _ ?side1 ?side2 ?side3 ?side4 ?side5 A5.out).mono ?_); (case side1 => repeat (first | (with_reducible first | exact HI0.out | apply qd.alloc | apply qd.drewN | apply qd.drew | apply qd.set_1 | apply qd.set_2) | exact HI0.out)); (case side2 => repeat (first | (with_reducible first | exact HB.out | apply qf | apply qg | apply qe | refine qk ?_ (qd.ge HI0.out)) | exact HB.out)); (case side3 => repeat (first | exact (Kd.qD HO286.out).2.2 | (with_reducible refine Kd.qN ?_ _) | (with_reducible refine Kd.qM ?_ _) | (with_reducible refine Kd.qO ?_))); (case side4 => exact (Kd.qD HO286.out).2.1); (case side5 => exact far_slice (qd.own_ne HI0.out HO286.out (by decide))); rintro e w10 ⟨rfl, hi, hb, hk⟩; refine ⟨_, rfl, ?_⟩; replace HO286 := qb.mk (Kd.qF (Kd.qeb (qd.apart (show qd w0 _ g s0_0 x1001_1 x1002_1 from by repeat (first | (with_reducible first | exact HI0.out | apply qd.alloc | apply qd.drewN | apply qd.drew | apply qd.set_1 | apply qd.set_2) | exact HI0.out)) (by (with_reducible repeat (first | apply Kd.qo | apply Kd.qn | apply Kd.qm)); exact HO286.out) (by decide)) hk (fun _ h => h.2)) (fun _ h => h.1)); replace HK := qb.mk (qh.trans (by repeat (first | (with_reducible first | exact HK.out | apply qh.set_ | apply qr | apply qq | apply qt) | exact HK.out)) hk (.inl rfl)); replace HB := qb.mk (hb); replace HI0 := qb.mk (hi); (try clear hb); (try clear hb2); (try clear hk); (try clear hi)))
     go_roundg k1
     case measure => have := HK1.out; omega
     case rel => exact ⟨(x3_1 ++ t287), (wrap64 (x4_1 - 1)), (t288), (t289), (by first | rfl | (simp; done) | (simp [*]; done)), (by first | rfl | (simp; done) | (simp [*]; done)), H', ⟨by have := HK1.out; omega⟩, ⟨by repeat (first | (with_reducible first | exact HI0.out | apply qd.alloc | apply qd.drewN | apply qd.drew | apply qd.set_1 | apply qd.set_2) | exact HI0.out)⟩, ⟨by repeat (first | (with_reducible first | exact HK.out | apply qh.set_ | apply qr | apply qq | apply qt) | exact HK.out)⟩, ⟨by repeat (first | (with_reducible first | exact HB.out | apply qf | apply qg | apply qe | refine qk ?_ (qd.ge HI0.out)) | exact HB.out)⟩⟩
    ·rw [if_neg c6] at H
     exact absurd H (by simp)
   ·rw [if_neg c4] at H
    have c4b0 : decide (0 < x4_1) = false := decide_eq_false c4
    clear c4
    replace H := Option.bind_eq_some_iff.mp H
    obtain ⟨⟨t290, t291, t292⟩, A110, H⟩ := H
    try dsimp only at H
    have A11 := qb.mk A110
    clear A110
    by_cases c12 : t290 = true
    ·subst c12
     rw [if_pos rfl] at H
     replace H := Option.bind_eq_some_iff.mp H
     obtain ⟨⟨t293, t294, t295⟩, A130, H⟩ := H
     try dsimp only at H
     have A13 := qb.mk A130
     clear A130
     obtain ⟨ji14, hji14⟩ : ∃ j_ : Int, (wrap64 (300 + t293)) = j_ := ⟨_, rfl⟩
     replace H : (if 0 ≤ (ji14) then (if (ji14 : Int).toNat ≤ 281474976710656 then (some (strOfNums (List.replicate (ji14 : Int).toNat 0), t294, t295)) else (none)) else (none)) = some (r1, r2, r3) := by first | (rw [hji14] at H; exact H) | (simp only [hji14] at H ⊢; exact H)
     (try rw [hji14] at A11)
     (try rw [hji14] at A13)
     have hji14w : (IntKind.i64.wrap (300 + t293)) = ji14 := (i64_w _).trans hji14
     by_cases c15 : 0 ≤ (ji14)
     ·rw [if_pos c15] at H
      have c15b0 := eq_true c15
      have c15b1 : decide (0 ≤ (ji14)) = true := decide_eq_true c15
      clear c15
      by_cases c16 : (ji14 : Int).toNat ≤ 281474976710656
      ·rw [if_pos c16] at H
       have c16b0 := eq_true c16
       have c16b1 : decide ((ji14 : Int).toNat ≤ 281474976710656) = true := decide_eq_true c16
       clear c16
       obtain ⟨y296, hy296⟩ : ∃ y_ : List Int, y_ = (List.replicate (ji14 : Int).toNat 0) := ⟨_, rfl⟩
       replace H : (some (strOfNums y296, t294, t295)) = some (r1, r2, r3) := by first | (rw [hy296]; with_reducible exact H) | (have H2_ := (Option.bind_some _ _).symm.trans H; rw [hy296]; with_reducible exact H2_) | (have H2_ := (Option.bind_some _ _).symm.trans H; with_reducible exact H2_) | with_reducible exact H | (rw [hy296]; exact H) | exact H
       have Ny296 := qb.mk hy296
       clear hy296
       simp only [Option.some.injEq, Prod.mk.injEq] at H
       obtain ⟨rfl, rfl, rfl⟩ := H
       go_wp2_with (first | ((with_reducible refine qy (f := 91) rfl ?_); refine qz (some 17) rfl rfl Try.func91 (by kernel_rfl) rfl #[.pointer (some ⟨g, 0, none⟩), .int .i64 30] rfl (by (try simp only [List.map_toArray, List.map_cons, List.map_nil]); first | done | rfl | (simp only [List.length_drop, List.length_take]; rfl)) ?_; (with_reducible refine (qAc.calls g s0_0 x1001_1 x1002_1 30 true t291 t292 w0 _ ?side1 ?side2 A11.out).mono ?_); (case side1 => repeat (first | (with_reducible first | exact HI0.out | apply qd.alloc | apply qd.drewN | apply qd.drew | apply qd.set_1 | apply qd.set_2) | exact HI0.out)); (case side2 => repeat (first | (with_reducible first | exact HB.out | apply qf | apply qg | apply qe | refine qk ?_ (qd.ge HI0.out)) | exact HB.out)); rintro e w17 ⟨rfl, hi, hb, hk⟩; refine ⟨_, rfl, ?_⟩; replace HK := qb.mk (qh.trans (by repeat (first | (with_reducible first | exact HK.out | apply qh.set_ | apply qr | apply qq | apply qt) | exact HK.out)) hk (.inl rfl)); replace HB := qb.mk (hb); replace HI0 := qb.mk (hi); (try clear hb); (try clear hb2); (try clear hk); (try clear hi)) | ((with_reducible refine qy (f := 86) rfl ?_); refine qz (some 19) rfl rfl Try.func86 (by kernel_rfl) rfl #[.pointer (some ⟨g, 0, none⟩), .int .i64 2] rfl (by (try simp only [List.map_toArray, List.map_cons, List.map_nil]); first | done | rfl | (simp only [List.length_drop, List.length_take]; rfl)) ?_; (with_reducible refine (qK.calls g s0_0 t291 t292 2 t293 t294 t295 w0 _ ?side1 ?side2 A13.out).mono ?_); (case side1 => repeat (first | (with_reducible first | exact HI0.out | apply qd.alloc | apply qd.drewN | apply qd.drew | apply qd.set_1 | apply qd.set_2) | exact HI0.out)); (case side2 => repeat (first | (with_reducible first | exact HB.out | apply qf | apply qg | apply qe | refine qk ?_ (qd.ge HI0.out)) | exact HB.out)); rintro e w18 ⟨rfl, hi, hb, hk⟩; refine ⟨_, rfl, ?_⟩; replace HK := qb.mk (qh.trans (by repeat (first | (with_reducible first | exact HK.out | apply qh.set_ | apply qr | apply qq | apply qt) | exact HK.out)) hk (.inl rfl)); replace HB := qb.mk (hb); replace HI0 := qb.mk (hi); (try clear hb); (try clear hb2); (try clear hk); (try clear hi)) | ((with_reducible refine qcb (N := 21) rfl ?_); refine Kd.R_make (Kd.int .u8) _ 5 rfl (N := 21) rfl 38 _ _ rfl ji14 rfl rfl Try.underlying38 (.int .u8 0) 1 info5 rfl (by decide) (by omega) 0 (ok := fun _ => True) (okp := fun _ => True) rfl (fun _ hk => hk) trivial (of_decide_eq_true (by first | (with_reducible assumption) | assumption)) (Nat.le_trans (Nat.mul_le_mul_right _ (of_decide_eq_true (by first | (with_reducible assumption) | assumption) : ji14.toNat ≤ 281474976710656)) (by omega)) (Below.refl _ _) (Nat.le_refl _) ?_; intro v297 w19 ho20 hb hg_ hnew_; clear hg_ hnew_; (first | rw [← Ny296.out] at ho20 | (simp only [Int.reduceToNat] at ho20; rw [← Ny296.out] at ho20)); have HO298 := qb.mk (Kd.qU ho20 (qob (w := w) (g := g) (row := none) (by repeat (first | (with_reducible first | exact HK.out | apply qh.set_ | apply qr | apply qq | apply qt) | exact HK.out)))); replace HK := qb.mk (qh.trans (by repeat (first | (with_reducible first | exact HK.out | apply qh.set_ | apply qr | apply qq | apply qt) | exact HK.out)) (qh.of_below hb g none) (.inl rfl)); replace HB := qb.mk (qE (by repeat (first | (with_reducible first | exact HB.out | apply qf | apply qg | apply qe | refine qk ?_ (qd.ge HI0.out)) | exact HB.out)) hb); replace HI0 := qb.mk (qd.below (by repeat (first | (with_reducible first | exact HI0.out | apply qd.alloc | apply qd.drewN | apply qd.drew | apply qd.set_1 | apply qd.set_2) | exact HI0.out)) hb); clear hb ho20; have hcv21 := qRb (P := Try.prog) Try.underlying38 Try.underlying5 Try.underlying9 (Kd.qQb HO298.out)))
       go_ret
       exact ⟨by first | rfl | (simp [qv, qu] <;> rfl) | (simp only [← hji14]; first | rfl | (simp [qv, qu] <;> rfl)) | (simp [*, qv, qu] <;> rfl), by repeat (first | (with_reducible first | exact HI0.out | apply qd.alloc | apply qd.drewN | apply qd.drew | apply qd.set_1 | apply qd.set_2) | exact HI0.out), by repeat (first | (with_reducible first | exact HB.out | apply qf | apply qg | apply qe | refine qk ?_ (qd.ge HI0.out)) | exact HB.out), by repeat (first | (with_reducible first | exact HK.out | apply qh.set_ | apply qr | apply qq | apply qt) | exact HK.out)⟩
      ·rw [if_neg c16] at H
       exact absurd H (by simp)
     ·rw [if_neg c15] at H
      exact absurd H (by simp)
    ·replace c12 := Bool.eq_false_iff.mpr c12
     subst c12
     rw [if_neg (show ¬ (false = true) by decide)] at H
     simp only [Option.some.injEq, Prod.mk.injEq] at H
     obtain ⟨rfl, rfl, rfl⟩ := H
     go_wp2_with (first | ((with_reducible refine qy (f := 91) rfl ?_); refine qz (some 17) rfl rfl Try.func91 (by kernel_rfl) rfl #[.pointer (some ⟨g, 0, none⟩), .int .i64 30] rfl (by (try simp only [List.map_toArray, List.map_cons, List.map_nil]); first | done | rfl | (simp only [List.length_drop, List.length_take]; rfl)) ?_; (with_reducible refine (qAc.calls g s0_0 x1001_1 x1002_1 30 false t291 t292 w0 _ ?side1 ?side2 A11.out).mono ?_); (case side1 => repeat (first | (with_reducible first | exact HI0.out | apply qd.alloc | apply qd.drewN | apply qd.drew | apply qd.set_1 | apply qd.set_2) | exact HI0.out)); (case side2 => repeat (first | (with_reducible first | exact HB.out | apply qf | apply qg | apply qe | refine qk ?_ (qd.ge HI0.out)) | exact HB.out)); rintro e w22 ⟨rfl, hi, hb, hk⟩; refine ⟨_, rfl, ?_⟩; replace HK := qb.mk (qh.trans (by repeat (first | (with_reducible first | exact HK.out | apply qh.set_ | apply qr | apply qq | apply qt) | exact HK.out)) hk (.inl rfl)); replace HB := qb.mk (hb); replace HI0 := qb.mk (hi); (try clear hb); (try clear hb2); (try clear hk); (try clear hi)))
     go_ret
     exact ⟨by first | rfl | (simp [qv, qu] <;> rfl) | (simp [*, qv, qu] <;> rfl), by repeat (first | (with_reducible first | exact HI0.out | apply qd.alloc | apply qd.drewN | apply qd.drew | apply qd.set_1 | apply qd.set_2) | exact HI0.out), by repeat (first | (with_reducible first | exact HB.out | apply qf | apply qg | apply qe | refine qk ?_ (qd.ge HI0.out)) | exact HB.out), by repeat (first | (with_reducible first | exact HK.out | apply qh.set_ | apply qr | apply qq | apply qt) | exact HK.out)⟩

end Go.Proofs.Ytnhnlfkbngnkpaa.E
