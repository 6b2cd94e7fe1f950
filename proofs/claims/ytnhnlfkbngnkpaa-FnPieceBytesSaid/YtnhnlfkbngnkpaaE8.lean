-- Made by a program of this session out of the translation; no hand has turned it.
import Derived.Test.YtnhnlfkbngnkpaaE0
import Derived.Test.YtnhnlfkbngnkpaaE2
namespace Go.Proofs.Ytnhnlfkbngnkpaa.E
open Go.RowKit Go.Proofs.YtnhnlfkbngnkpaaW.PrintWords Go.Proofs.YtnhnlfkbngnkpaaW.PrintLast Go.Proofs.YtnhnlfkbngnkpaaW.PrintMore
attribute [local go_sem] qXb qbc qac qec qZb qdc qYb qcc   -- for this text's walks alone
set_option linter.unusedVariables false
set_option linter.unusedSimpArgs false

/-- A state of type 89 at block g of W; what its slices lead to came in by w0. -/
def qj (w0 W : World) (g : Nat) (f0 : ByteArray) (f1 : Bool) : Prop := W.heap[g]? = some (.cells #[.string f0, .bool f1] 89 (0, 0)) ∧ w0.heap.size ≤ g
theorem qj.grown {w0 W : World} {g : Nat} {f0 : ByteArray} {f1 : Bool} {W1 : World} {row : Option Nat} (h : qj w0 W g f0 f1) (hw : W.grownBy W1 row) (hne : some g ≠ row) : qj w0 W1 g f0 f1 := by
 obtain ⟨hb, hg⟩ := h
 exact ⟨qJb hb hw hne, hg⟩
theorem qj.own_neN {w0 W : World} {g : Nat} {f0 : ByteArray} {f1 : Bool} {α : Type} {d : Kd α} {e : Nat} {base : Nat} {ok : Nat → Prop} {v : Value} {xs : List α} (h : qj w0 W g f0 f1) (ho : Kd.N d e W base ok v xs) (ht : e ≠ 89) : some g ≠ v.ownBlock := by
 obtain ⟨hb, hg⟩ := h
 exact Kd.N_ne ho hb ht
theorem qj.fresh {w0 W : World} {g : Nat} {f0 : ByteArray} {f1 : Bool} (h : qj w0 W g f0 f1) : ∀ k, W.heap.size ≤ k → k ≠ g := by
 obtain ⟨hb, hg⟩ := h
 exact Kd.freshB hb
theorem qj.kept {w0 W : World} {g : Nat} {f0 : ByteArray} {f1 : Bool} {W1 : World} {S : Nat → Prop} (h : qj w0 W g f0 f1) (hk : Kept W W1 S) (hne : ¬ S g) : qj w0 W1 g f0 f1 := by
 obtain ⟨hb, hg⟩ := h
 exact ⟨blk_kept hb hk hne, hg⟩
theorem qj.below {w0 W : World} {g : Nat} {f0 : ByteArray} {f1 : Bool} {W1 : World} (h : qj w0 W g f0 f1) (hw : Below W.heap.size W W1) : qj w0 W1 g f0 f1 := h.grown (grown_of_below hw none) (by simp)
theorem qj.alloc {w0 W : World} {g : Nat} {f0 : ByteArray} {f1 : Bool} (h : qj w0 W g f0 f1) (o : Obj) : qj w0 (W.alloc o) g f0 f1 := h.below (qf (Below.refl _ _) o)
theorem qj.drewN {w0 W : World} {g : Nat} {f0 : ByteArray} {f1 : Bool} (h : qj w0 W g f0 f1) (m : Nat) : qj w0 (W.drewN m) g f0 f1 := h
theorem qj.drew {w0 W : World} {g : Nat} {f0 : ByteArray} {f1 : Bool} (h : qj w0 W g f0 f1) : qj w0 W.drew g f0 f1 := h
theorem qj.at_ {w0 W : World} {g : Nat} {f0 : ByteArray} {f1 : Bool} {w' : World} {m : Nat} (hq : W.drewN m = w') (h : qj w0 W g f0 f1) : qj w0 w' g f0 f1 := by subst hq; exact qj.drewN h m
theorem qj.apart {w0 W : World} {g : Nat} {f0 : ByteArray} {f1 : Bool} {α : Type} {d : Kd α} {e : Nat} {base : Nat} {ok : Nat → Prop} {v : Value} {xs : List α} (h : qj w0 W g f0 f1) (ho : d.R e W base ok v xs) (ht : ∀ q, q ∈ e :: d.E → q ≠ 89) : d.R e W base (fun k => ok k ∧ k ≠ g) v xs := by
 obtain ⟨hb, hg⟩ := h
 exact Kd.R_types ho hb ht
theorem qj.own_ne {w0 W : World} {g : Nat} {f0 : ByteArray} {f1 : Bool} {α : Type} {d : Kd α} {e : Nat} {base : Nat} {ok : Nat → Prop} {v : Value} {xs : List α} (h : qj w0 W g f0 f1) (ho : d.R e W base ok v xs) (ht : e ≠ 89) : some g ≠ v.ownBlock := by
 obtain ⟨hb, hg⟩ := h
 exact Kd.R_ne ho hb ht
theorem qj.apartQ {w0 W : World} {g : Nat} {f0 : ByteArray} {f1 : Bool} {α : Type} {d : Kd α} {e : Nat} {base : Nat} {ok : Nat → Prop} {v : Value} {xs : List α} (h : qj w0 W g f0 f1) (ho : d.Q e W base ok v xs) (ht : ∀ q, q ∈ e :: d.E → q ≠ 89) : d.Q e W base (fun k => ok k ∧ k ≠ g) v xs := by
 obtain ⟨hb, hg⟩ := h
 exact Kd.Q_types ho hb ht
theorem qj.own_neQ {w0 W : World} {g : Nat} {f0 : ByteArray} {f1 : Bool} {α : Type} {d : Kd α} {e : Nat} {base : Nat} {ok : Nat → Prop} {v : Value} {xs : List α} (h : qj w0 W g f0 f1) (ho : d.Q e W base ok v xs) (ht : e ≠ 89) : some g ≠ v.ownBlock := by
 obtain ⟨hb, hg⟩ := h
 exact Kd.Q_ne ho hb ht
theorem qj.apartS {w0 W : World} {g : Nat} {f0 : ByteArray} {f1 : Bool} {α : Type} {d : Kd α} {e : Nat} {base : Nat} {ok : Nat → Prop} {v : Value} {xs : List α} (h : qj w0 W g f0 f1) (ho : d.S e W base ok v xs) (ht : ∀ q, q ∈ e :: d.E → q ≠ 89) : d.S e W base (fun k => ok k ∧ k ≠ g) v xs := by
 obtain ⟨hb, hg⟩ := h
 exact Kd.S_types ho hb ht
theorem qj.own_neS {w0 W : World} {g : Nat} {f0 : ByteArray} {f1 : Bool} {α : Type} {d : Kd α} {e : Nat} {base : Nat} {ok : Nat → Prop} {v : Value} {xs : List α} (h : qj w0 W g f0 f1) (ho : d.S e W base ok v xs) (ht : e ≠ 89) : some g ≠ v.ownBlock := by
 obtain ⟨hb, hg⟩ := h
 exact Kd.S_ne ho hb ht
theorem qj.lt {w0 W : World} {g : Nat} {f0 : ByteArray} {f1 : Bool} (h : qj w0 W g f0 f1) : g < W.heap.size := by
 obtain ⟨hb, hg⟩ := h
 exact blk_lt hb
theorem qj.ge {w0 W : World} {g : Nat} {f0 : ByteArray} {f1 : Bool} (h : qj w0 W g f0 f1) : w0.heap.size ≤ g := by
 obtain ⟨hb, hg⟩ := h
 exact hg
theorem qj.ne_blk {w0 W : World} {g : Nat} {f0 : ByteArray} {f1 : Bool} {a : Nat} {cs : Array Value} {t : TypeId} {fr : Nat × Nat} (h : qj w0 W g f0 f1) (hb2 : W.heap[a]? = some (.cells cs t fr)) (ht : t ≠ 89) : g ≠ a := by
 obtain ⟨hb, hg⟩ := h
 rintro rfl
 rw [hb] at hb2
 injection hb2 with hb2
 injection hb2 with _ ht2
 exact ht ht2.symm
theorem qj.far {w0 W : World} {g : Nat} {f0 : ByteArray} {f1 : Bool} {p : Addr} (h : qj w0 W g f0 f1) (hne : g ≠ p.block) (u : Value) : qj w0 (W.setCell p u) g f0 f1 := by
 obtain ⟨hb, hg⟩ := h
 exact ⟨blk_far hb hne u, hg⟩
theorem qUb {W : World} {g : Nat} {f0 : ByteArray} {f1 : Bool} (h : W.heap[g]? = some (.cells #[.string f0, .bool f1] 89 (0, 0))) : W.cell? ⟨g, 0, none⟩ = some (.string f0) := (ql h 0).trans rfl
theorem qj.set_0 {w0 W : World} {g : Nat} {f0 : ByteArray} {f1 : Bool} (h : qj w0 W g f0 f1) (x : ByteArray) : qj w0 (W.setCell ⟨g, 0, none⟩ (.string x)) g x f1 := by
 obtain ⟨hb, hg⟩ := h
 exact ⟨by simpa using blk_set hb 0 (.string x), hg⟩
theorem qVb {W : World} {g : Nat} {f0 : ByteArray} {f1 : Bool} (h : W.heap[g]? = some (.cells #[.string f0, .bool f1] 89 (0, 0))) : W.cell? ⟨g, 1, none⟩ = some (.bool f1) := (ql h 1).trans rfl
theorem qj.set_1 {w0 W : World} {g : Nat} {f0 : ByteArray} {f1 : Bool} (h : qj w0 W g f0 f1) (x : Bool) : qj w0 (W.setCell ⟨g, 1, none⟩ (.bool x)) g f0 x := by
 obtain ⟨hb, hg⟩ := h
 exact ⟨by simpa using blk_set hb 1 (.bool x), hg⟩
theorem qj.new (w0 W : World) (f0 : ByteArray) (f1 : Bool) (hB : Below w0.heap.size w0 W) : qj w0 (W.alloc (.cells #[.string f0, .bool f1] 89)) W.heap.size f0 f1 := ⟨by simpa using heap_alloc_new W _, hB.size⟩

/-! ### qxb: function 75 -/
def qxb.f (s0_0 : ByteArray) (s0_1 : Bool) (a1 : Int) : Option (ByteArray × ByteArray × Bool) := if (s0_0.size : Int) < a1 then (some ((⟨#[]⟩ : ByteArray), s0_0, true)) else (if 0 ≤ a1 then (if a1 ≤ (s0_0.size : Int) then (some (s0_0.extract 0 (a1 : Int).toNat, s0_0.extract (a1 : Int).toNat s0_0.size, s0_1)) else (none)) else (none))
set_option maxHeartbeats 8000000 in
set_option maxRecDepth 100000 in
theorem qxb.calls (g : Nat) (s0_0 : ByteArray) (s0_1 : Bool) (a1 : Int) (r1 : ByteArray) (r2 : ByteArray) (r3 : Bool) (w0 w : World) (hI : qj w0 w g s0_0 s0_1) (hB : Below w0.heap.size w0 w) (h : qxb.f s0_0 s0_1 a1 = some (r1, r2, r3)) :
  Calls Try.prog 75 #[.pointer (some ⟨g, 0, none⟩), .int .i64 a1] w fun e w' => e = .returned (.string r1) ∧ qj w0 w' g r2 r3 ∧ Below w0.heap.size w0 w' ∧ qh w w' g none := by
 have HI0 := qb.mk hI
 have HK := qb.mk (qh.refl w g none)
 have HL := qb.mk hB.size
 clear hI
 have HW0 := qb.mk hB.size
 have HB := qb.mk hB
 clear hB
 have H : (if (s0_0.size : Int) < a1 then (some ((⟨#[]⟩ : ByteArray), s0_0, true)) else (if 0 ≤ a1 then (if a1 ≤ (s0_0.size : Int) then (some (s0_0.extract 0 (a1 : Int).toNat, s0_0.extract (a1 : Int).toNat s0_0.size, s0_1)) else (none)) else (none))) = some (r1, r2, r3) := h
 clear h
 by_cases c3 : (s0_0.size : Int) < a1
 ·rw [if_pos c3] at H
  have c3b0 : decide ((s0_0.size : Int) < a1) = true := decide_eq_true c3
  clear c3
  simp only [Option.some.injEq, Prod.mk.injEq] at H
  obtain ⟨rfl, rfl, rfl⟩ := H
  obtain ⟨HGz4, hgz4⟩ := HI0.out
  have hcz4_0 := qUb HGz4
  have hcz4_1 := qVb HGz4
  have hfz4_0 := qp HGz4 0
  have hfz4_1 := qp HGz4 1
  clear HGz4 hgz4
  go_enter Try.func75, Try.ntmps75
  go_wp2
  go_ret
  exact ⟨by first | rfl | (simp [qv, qu] <;> rfl) | (simp [*, qv, qu] <;> rfl), by repeat (first | (with_reducible first | exact HI0.out | apply qj.alloc | apply qj.drewN | apply qj.drew | apply qj.set_0 | apply qj.set_1) | exact HI0.out), by repeat (first | (with_reducible first | exact HB.out | apply qf | apply qg | apply qe | refine qk ?_ (qj.ge HI0.out)) | exact HB.out), by repeat (first | (with_reducible first | exact HK.out | apply qh.set_ | apply qr | apply qq | apply qt) | exact HK.out)⟩
 ·rw [if_neg c3] at H
  have c3b0 : decide ((s0_0.size : Int) < a1) = false := decide_eq_false c3
  clear c3
  by_cases c5 : 0 ≤ a1
  ·rw [if_pos c5] at H
   have c5b0 := eq_true c5
   have c5b1 : decide (0 ≤ a1) = true := decide_eq_true c5
   clear c5
   by_cases c6 : a1 ≤ (s0_0.size : Int)
   ·rw [if_pos c6] at H
    have c6b0 := eq_true c6
    have c6b1 : decide (a1 ≤ (s0_0.size : Int)) = true := decide_eq_true c6
    clear c6
    have c7b0 := eq_true (of_decide_eq_true (by first | (with_reducible assumption) | assumption) : 0 ≤ a1)
    have c8b0 := eq_true (of_decide_eq_true (by first | (with_reducible assumption) | assumption) : a1 ≤ (s0_0.size : Int))
    simp only [Option.some.injEq, Prod.mk.injEq] at H
    obtain ⟨rfl, rfl, rfl⟩ := H
    obtain ⟨HGz9, hgz9⟩ := HI0.out
    have hcz9_0 := qUb HGz9
    have hcz9_1 := qVb HGz9
    have hfz9_0 := qp HGz9 0
    have hfz9_1 := qp HGz9 1
    clear HGz9 hgz9
    go_enter Try.func75, Try.ntmps75
    go_wp2
    go_ret
    exact ⟨by first | rfl | (simp [qv, qu] <;> rfl) | (simp [*, qv, qu] <;> rfl), by repeat (first | (with_reducible first | exact HI0.out | apply qj.alloc | apply qj.drewN | apply qj.drew | apply qj.set_0 | apply qj.set_1) | exact HI0.out), by repeat (first | (with_reducible first | exact HB.out | apply qf | apply qg | apply qe | refine qk ?_ (qj.ge HI0.out)) | exact HB.out), by repeat (first | (with_reducible first | exact HK.out | apply qh.set_ | apply qr | apply qq | apply qt) | exact HK.out)⟩
   ·rw [if_neg c6] at H
    exact absurd H (by simp)
  ·rw [if_neg c5] at H
   exact absurd H (by simp)

/-! ### qDb: function 74 -/
def qDb.f (s0_0 : ByteArray) (s0_1 : Bool) : Option (Int × ByteArray × Bool) := (qxb.f s0_0 s0_1 2).bind fun bt213 => (if bt213.2.2 = true then (some (0, bt213.2.1, bt213.2.2)) else (if 0 < (bt213.1.size : Int) then (if 1 < (bt213.1.size : Int) then (some (Go.bits .or .i64 (wrap64 ((wrap64 (bt bt213.1 0)) * 256)) (wrap64 (bt bt213.1 1)), bt213.2.1, bt213.2.2)) else (none)) else (none)))
set_option maxHeartbeats 8000000 in
set_option maxRecDepth 100000 in
theorem qDb.calls (g : Nat) (s0_0 : ByteArray) (s0_1 : Bool) (r1 : Int) (r2 : ByteArray) (r3 : Bool) (w0 w : World) (hI : qj w0 w g s0_0 s0_1) (hB : Below w0.heap.size w0 w) (h : qDb.f s0_0 s0_1 = some (r1, r2, r3)) :
  Calls Try.prog 74 #[.pointer (some ⟨g, 0, none⟩)] w fun e w' => e = .returned (.int .i64 r1) ∧ qj w0 w' g r2 r3 ∧ Below w0.heap.size w0 w' ∧ qh w w' g none := by
 have HI0 := qb.mk hI
 have HK := qb.mk (qh.refl w g none)
 have HL := qb.mk hB.size
 clear hI
 have HW0 := qb.mk hB.size
 have HB := qb.mk hB
 clear hB
 have H : ((qxb.f s0_0 s0_1 2).bind fun bt213 => (if bt213.2.2 = true then (some (0, bt213.2.1, bt213.2.2)) else (if 0 < (bt213.1.size : Int) then (if 1 < (bt213.1.size : Int) then (some (Go.bits .or .i64 (wrap64 ((wrap64 (bt bt213.1 0)) * 256)) (wrap64 (bt bt213.1 1)), bt213.2.1, bt213.2.2)) else (none)) else (none)))) = some (r1, r2, r3) := h
 clear h
 replace H := Option.bind_eq_some_iff.mp H
 obtain ⟨⟨t213, t214, t215⟩, A20, H⟩ := H
 try dsimp only at H
 have A2 := qb.mk A20
 clear A20
 by_cases c3 : t215 = true
 ·subst c3
  rw [if_pos rfl] at H
  simp only [Option.some.injEq, Prod.mk.injEq] at H
  obtain ⟨rfl, rfl, rfl⟩ := H
  go_enter Try.func74, Try.ntmps74
  go_wp2_with (first | (go_at_call 75; (with_reducible refine (qxb.calls g s0_0 s0_1 2 t213 t214 true w0 _ ?side1 ?side2 A2.out).mono ?_); (case side1 => repeat (first | (with_reducible first | exact HI0.out | apply qj.alloc | apply qj.drewN | apply qj.drew | apply qj.set_0 | apply qj.set_1) | exact HI0.out)); (case side2 => repeat (first | (with_reducible first | exact HB.out | apply qf | apply qg | apply qe | refine qk ?_ (qj.ge HI0.out)) | exact HB.out)); rintro e w4 ⟨rfl, hi, hb, hk⟩; replace HK := qb.mk (qh.trans (by repeat (first | (with_reducible first | exact HK.out | apply qh.set_ | apply qr | apply qq | apply qt) | exact HK.out)) hk (.inl rfl)); replace HB := qb.mk (hb); replace HI0 := qb.mk (hi); (try clear hb); (try clear hb2); (try clear hk); (try clear hi); obtain ⟨HGz5, hgz5⟩ := HI0.out; have hcz5_0 := qUb HGz5; have hcz5_1 := qVb HGz5; have hfz5_0 := qp HGz5 0; have hfz5_1 := qp HGz5 1; clear HGz5 hgz5))
  repeat (go_quiet (first | (go_at_call 75; (with_reducible refine (qxb.calls g s0_0 s0_1 2 t213 t214 true w0 _ ?side1 ?side2 A2.out).mono ?_); (case side1 => repeat (first | (with_reducible first | exact HI0.out | apply qj.alloc | apply qj.drewN | apply qj.drew | apply qj.set_0 | apply qj.set_1) | exact HI0.out)); (case side2 => repeat (first | (with_reducible first | exact HB.out | apply qf | apply qg | apply qe | refine qk ?_ (qj.ge HI0.out)) | exact HB.out)); rintro e w4 ⟨rfl, hi, hb, hk⟩; replace HK := qb.mk (qh.trans (by repeat (first | (with_reducible first | exact HK.out | apply qh.set_ | apply qr | apply qq | apply qt) | exact HK.out)) hk (.inl rfl)); replace HB := qb.mk (hb); replace HI0 := qb.mk (hi); (try clear hb); (try clear hb2); (try clear hk); (try clear hi); obtain ⟨HGz5, hgz5⟩ := HI0.out; have hcz5_0 := qUb HGz5; have hcz5_1 := qVb HGz5; have hfz5_0 := qp HGz5 0; have hfz5_1 := qp HGz5 1; clear HGz5 hgz5)); try go_wp2_with (first | (go_at_call 75; (with_reducible refine (qxb.calls g s0_0 s0_1 2 t213 t214 true w0 _ ?side1 ?side2 A2.out).mono ?_); (case side1 => repeat (first | (with_reducible first | exact HI0.out | apply qj.alloc | apply qj.drewN | apply qj.drew | apply qj.set_0 | apply qj.set_1) | exact HI0.out)); (case side2 => repeat (first | (with_reducible first | exact HB.out | apply qf | apply qg | apply qe | refine qk ?_ (qj.ge HI0.out)) | exact HB.out)); rintro e w4 ⟨rfl, hi, hb, hk⟩; replace HK := qb.mk (qh.trans (by repeat (first | (with_reducible first | exact HK.out | apply qh.set_ | apply qr | apply qq | apply qt) | exact HK.out)) hk (.inl rfl)); replace HB := qb.mk (hb); replace HI0 := qb.mk (hi); (try clear hb); (try clear hb2); (try clear hk); (try clear hi); obtain ⟨HGz5, hgz5⟩ := HI0.out; have hcz5_0 := qUb HGz5; have hcz5_1 := qVb HGz5; have hfz5_0 := qp HGz5 0; have hfz5_1 := qp HGz5 1; clear HGz5 hgz5)))
  go_ret
  exact ⟨by first | rfl | (simp [qv, qu] <;> rfl) | (simp [*, qv, qu] <;> rfl), by repeat (first | (with_reducible first | exact HI0.out | apply qj.alloc | apply qj.drewN | apply qj.drew | apply qj.set_0 | apply qj.set_1) | exact HI0.out), by repeat (first | (with_reducible first | exact HB.out | apply qf | apply qg | apply qe | refine qk ?_ (qj.ge HI0.out)) | exact HB.out), by repeat (first | (with_reducible first | exact HK.out | apply qh.set_ | apply qr | apply qq | apply qt) | exact HK.out)⟩
 ·replace c3 := Bool.eq_false_iff.mpr c3
  subst c3
  rw [if_neg (show ¬ (false = true) by decide)] at H
  by_cases c6 : 0 < (t213.size : Int)
  ·rw [if_pos c6] at H
   have c6b0 : decide (0 < (t213.size : Int)) = true := decide_eq_true c6
   have c6b1 : decide (0 < t213.size) = true := decide_eq_true (by omega)
   clear c6
   by_cases c8 : 1 < (t213.size : Int)
   ·rw [if_pos c8] at H
    have c8b0 : decide (1 < (t213.size : Int)) = true := decide_eq_true c8
    have c8b1 : decide (1 < t213.size) = true := decide_eq_true (by omega)
    clear c8
    simp only [Option.some.injEq, Prod.mk.injEq] at H
    obtain ⟨rfl, rfl, rfl⟩ := H
    go_enter Try.func74, Try.ntmps74
    go_wp2_with (first | (go_at_call 75; (with_reducible refine (qxb.calls g s0_0 s0_1 2 t213 t214 false w0 _ ?side1 ?side2 A2.out).mono ?_); (case side1 => repeat (first | (with_reducible first | exact HI0.out | apply qj.alloc | apply qj.drewN | apply qj.drew | apply qj.set_0 | apply qj.set_1) | exact HI0.out)); (case side2 => repeat (first | (with_reducible first | exact HB.out | apply qf | apply qg | apply qe | refine qk ?_ (qj.ge HI0.out)) | exact HB.out)); rintro e w10 ⟨rfl, hi, hb, hk⟩; replace HK := qb.mk (qh.trans (by repeat (first | (with_reducible first | exact HK.out | apply qh.set_ | apply qr | apply qq | apply qt) | exact HK.out)) hk (.inl rfl)); replace HB := qb.mk (hb); replace HI0 := qb.mk (hi); (try clear hb); (try clear hb2); (try clear hk); (try clear hi); obtain ⟨HGz11, hgz11⟩ := HI0.out; have hcz11_0 := qUb HGz11; have hcz11_1 := qVb HGz11; have hfz11_0 := qp HGz11 0; have hfz11_1 := qp HGz11 1; clear HGz11 hgz11; have p7 : 0 ≤ (0 : Int) := (by omega); have q7 : 0 < t213.size := (by have : (0 : Int) < (t213.size : Int) := of_decide_eq_true (by first | (with_reducible assumption) | assumption); omega); have hx7 : ∀ h : 0 < t213.size, ((t213[0]'h).toNat : Int) = bt t213 0 := bt_at t213 0; clear p7; have qi7 : (0 < (t213.size : Int)) = True := eq_true (of_decide_eq_true (by first | (with_reducible assumption) | assumption)); replace q7 := eq_true q7; have p9 : 0 ≤ (1 : Int) := (by omega); have q9 : 1 < t213.size := (by have : (1 : Int) < (t213.size : Int) := of_decide_eq_true (by first | (with_reducible assumption) | assumption); omega); have hx9 : ∀ h : 1 < t213.size, ((t213[1]'h).toNat : Int) = bt t213 1 := bt_at t213 1; clear p9; have qi9 : (1 < (t213.size : Int)) = True := eq_true (of_decide_eq_true (by first | (with_reducible assumption) | assumption)); replace q9 := eq_true q9))
    repeat (go_quiet (first | (go_at_call 75; (with_reducible refine (qxb.calls g s0_0 s0_1 2 t213 t214 false w0 _ ?side1 ?side2 A2.out).mono ?_); (case side1 => repeat (first | (with_reducible first | exact HI0.out | apply qj.alloc | apply qj.drewN | apply qj.drew | apply qj.set_0 | apply qj.set_1) | exact HI0.out)); (case side2 => repeat (first | (with_reducible first | exact HB.out | apply qf | apply qg | apply qe | refine qk ?_ (qj.ge HI0.out)) | exact HB.out)); rintro e w10 ⟨rfl, hi, hb, hk⟩; replace HK := qb.mk (qh.trans (by repeat (first | (with_reducible first | exact HK.out | apply qh.set_ | apply qr | apply qq | apply qt) | exact HK.out)) hk (.inl rfl)); replace HB := qb.mk (hb); replace HI0 := qb.mk (hi); (try clear hb); (try clear hb2); (try clear hk); (try clear hi); obtain ⟨HGz11, hgz11⟩ := HI0.out; have hcz11_0 := qUb HGz11; have hcz11_1 := qVb HGz11; have hfz11_0 := qp HGz11 0; have hfz11_1 := qp HGz11 1; clear HGz11 hgz11; have p7 : 0 ≤ (0 : Int) := (by omega); have q7 : 0 < t213.size := (by have : (0 : Int) < (t213.size : Int) := of_decide_eq_true (by first | (with_reducible assumption) | assumption); omega); have hx7 : ∀ h : 0 < t213.size, ((t213[0]'h).toNat : Int) = bt t213 0 := bt_at t213 0; clear p7; have qi7 : (0 < (t213.size : Int)) = True := eq_true (of_decide_eq_true (by first | (with_reducible assumption) | assumption)); replace q7 := eq_true q7; have p9 : 0 ≤ (1 : Int) := (by omega); have q9 : 1 < t213.size := (by have : (1 : Int) < (t213.size : Int) := of_decide_eq_true (by first | (with_reducible assumption) | assumption); omega); have hx9 : ∀ h : 1 < t213.size, ((t213[1]'h).toNat : Int) = bt t213 1 := bt_at t213 1; clear p9; have qi9 : (1 < (t213.size : Int)) = True := eq_true (of_decide_eq_true (by first | (with_reducible assumption) | assumption)); replace q9 := eq_true q9)); try go_wp2_with (first | (go_at_call 75; (with_reducible refine (qxb.calls g s0_0 s0_1 2 t213 t214 false w0 _ ?side1 ?side2 A2.out).mono ?_); (case side1 => repeat (first | (with_reducible first | exact HI0.out | apply qj.alloc | apply qj.drewN | apply qj.drew | apply qj.set_0 | apply qj.set_1) | exact HI0.out)); (case side2 => repeat (first | (with_reducible first | exact HB.out | apply qf | apply qg | apply qe | refine qk ?_ (qj.ge HI0.out)) | exact HB.out)); rintro e w10 ⟨rfl, hi, hb, hk⟩; replace HK := qb.mk (qh.trans (by repeat (first | (with_reducible first | exact HK.out | apply qh.set_ | apply qr | apply qq | apply qt) | exact HK.out)) hk (.inl rfl)); replace HB := qb.mk (hb); replace HI0 := qb.mk (hi); (try clear hb); (try clear hb2); (try clear hk); (try clear hi); obtain ⟨HGz11, hgz11⟩ := HI0.out; have hcz11_0 := qUb HGz11; have hcz11_1 := qVb HGz11; have hfz11_0 := qp HGz11 0; have hfz11_1 := qp HGz11 1; clear HGz11 hgz11; have p7 : 0 ≤ (0 : Int) := (by omega); have q7 : 0 < t213.size := (by have : (0 : Int) < (t213.size : Int) := of_decide_eq_true (by first | (with_reducible assumption) | assumption); omega); have hx7 : ∀ h : 0 < t213.size, ((t213[0]'h).toNat : Int) = bt t213 0 := bt_at t213 0; clear p7; have qi7 : (0 < (t213.size : Int)) = True := eq_true (of_decide_eq_true (by first | (with_reducible assumption) | assumption)); replace q7 := eq_true q7; have p9 : 0 ≤ (1 : Int) := (by omega); have q9 : 1 < t213.size := (by have : (1 : Int) < (t213.size : Int) := of_decide_eq_true (by first | (with_reducible assumption) | assumption); omega); have hx9 : ∀ h : 1 < t213.size, ((t213[1]'h).toNat : Int) = bt t213 1 := bt_at t213 1; clear p9; have qi9 : (1 < (t213.size : Int)) = True := eq_true (of_decide_eq_true (by first | (with_reducible assumption) | assumption)); replace q9 := eq_true q9)))
    go_ret
    exact ⟨by first | rfl | (simp [qv, qu] <;> rfl) | (simp [*, qv, qu] <;> rfl), by repeat (first | (with_reducible first | exact HI0.out | apply qj.alloc | apply qj.drewN | apply qj.drew | apply qj.set_0 | apply qj.set_1) | exact HI0.out), by repeat (first | (with_reducible first | exact HB.out | apply qf | apply qg | apply qe | refine qk ?_ (qj.ge HI0.out)) | exact HB.out), by repeat (first | (with_reducible first | exact HK.out | apply qh.set_ | apply qr | apply qq | apply qt) | exact HK.out)⟩
   ·rw [if_neg c8] at H
    exact absurd H (by simp)
  ·rw [if_neg c6] at H
   exact absurd H (by simp)

/-! ### qI: function 36 -/
mutual
def qI.j2 : Nat → ByteArray → List (S43) → ByteArray → Bool → Option ((List (S43)) × Int × Bool)
 | 0, _, _, _, _ => none
 | k + 1, x0, x8, x217000, x217001 => if x217001 = true then (qI.j3 k x0 x8 true) else (qI.j3 k x0 x8 (x217000.toList != ([] : List UInt8)))
def qI.j3 : Nat → ByteArray → List (S43) → Bool → Option ((List (S43)) × Int × Bool)
 | 0, _, _, _ => none
 | k + 1, x0, x8, x63 => if x63 = true then (some (([] : List (S43)), 1, false)) else ((qlb.f k x0 x8).bind fun t245 => (if t245 = true then (some (x8, 0, true)) else (some (([] : List (S43)), 3, false))))
def qI.l0 : Nat → ByteArray → List (S43) → Int → Int → ByteArray → Bool → Option ((List (S43)) × Int × Bool)
 | 0, _, _, _, _, _, _ => none
 | k + 1, x0, x8, x9, x10, x217000, x217001 => if x10 < x9 then (qI.j1 k x0 x8 x9 x10 (!x217001) x217000 x217001) else (qI.j1 k x0 x8 x9 x10 false x217000 x217001)
def qI.j1 : Nat → ByteArray → List (S43) → Int → Int → Bool → ByteArray → Bool → Option ((List (S43)) × Int × Bool)
 | 0, _, _, _, _, _, _, _ => none
 | k + 1, x0, x8, x9, x10, x28, x217000, x217001 => if x28 = true then ((qxb.f x217000 x217001 1).bind fun bt223 => (if bt223.2.2 = true then (qI.j2 k x0 x8 bt223.2.1 bt223.2.2) else (if 0 < (bt223.1.size : Int) then (if (wrap64 (bt bt223.1 0)) = 1 then ((qDb.f bt223.2.1 bt223.2.2).bind fun bt227 => ((qDb.f bt227.2.1 bt227.2.2).bind fun bt230 => (if x8.length < 3518437208883 then (qI.l0 k x0 (x8 ++ [(⟨wrap64 (bt bt223.1 0), bt227.1, bt230.1, (⟨#[]⟩ : ByteArray)⟩ : S43)]) x9 (wrap64 (x10 + 1)) bt230.2.1 bt230.2.2) else (none)))) else (if (wrap64 (bt bt223.1 0)) = 2 then ((qDb.f bt223.2.1 bt223.2.2).bind fun bt236 => ((qxb.f bt236.2.1 bt236.2.2 bt236.1).bind fun bt239 => (if x8.length < 3518437208883 then (qI.l0 k x0 (x8 ++ [(⟨wrap64 (bt bt223.1 0), 0, 0, bt239.1⟩ : S43)]) x9 (wrap64 (x10 + 1)) bt239.2.1 bt239.2.2) else (none)))) else (some (([] : List (S43)), 2, false)))) else (none)))) else (qI.j2 k x0 x8 x217000 x217001)
end
def qI.f (k : Nat) (a0 : ByteArray) (a1 : ByteArray) : Option ((List (S43)) × Int × Bool) := (qDb.f a1 false).bind fun bt220 => (qI.l0 k a0 (([] : List (S43))) bt220.1 0 bt220.2.1 bt220.2.2)
theorem qI.qjb : ∀ k, (∀ y0 y1 y2 y3, LeO (qI.j2 k y0 y1 y2 y3) (qI.j2 (k + 1) y0 y1 y2 y3)) ∧ (∀ y0 y1 y2, LeO (qI.j3 k y0 y1 y2) (qI.j3 (k + 1) y0 y1 y2)) ∧ (∀ y0 y1 y2 y3 y4 y5, LeO (qI.l0 k y0 y1 y2 y3 y4 y5) (qI.l0 (k + 1) y0 y1 y2 y3 y4 y5)) ∧ (∀ y0 y1 y2 y3 y4 y5 y6, LeO (qI.j1 k y0 y1 y2 y3 y4 y5 y6) (qI.j1 (k + 1) y0 y1 y2 y3 y4 y5 y6))
 | 0 => ⟨fun _ _ _ _ r h => by simp [qI.j2] at h, fun _ _ _ r h => by simp [qI.j3] at h, fun _ _ _ _ _ _ r h => by simp [qI.l0] at h, fun _ _ _ _ _ _ _ r h => by simp [qI.j1] at h⟩
 | k + 1 => by
  obtain ⟨ih0, ih1, ih2, ih3⟩ := qI.qjb k
  refine ⟨?_, ?_, ?_, ?_⟩
  ·intro y0 y1 y2 y3
   unfold qI.j2
   repeat' first
   | (with_reducible exact ih0 _ _ _ _)
   | (with_reducible exact ih1 _ _ _)
   | (with_reducible exact ih2 _ _ _ _ _ _)
   | (with_reducible exact ih3 _ _ _ _ _ _ _)
   | (with_reducible exact qlb.mono _ _ _)
   | (with_reducible exact LeO.refl _)
   | (with_reducible exact LeO.none _)
   | (with_reducible refine LeO.ite ?_ ?_)
   | (with_reducible refine LeO.bind ?_ (fun _ => ?_))
   | exact LeO.none _
   | refine LeO.ite ?_ ?_
   | refine LeO.bind ?_ (fun _ => ?_)
  ·intro y0 y1 y2
   unfold qI.j3
   repeat' first
   | (with_reducible exact ih0 _ _ _ _)
   | (with_reducible exact ih1 _ _ _)
   | (with_reducible exact ih2 _ _ _ _ _ _)
   | (with_reducible exact ih3 _ _ _ _ _ _ _)
   | (with_reducible exact qlb.mono _ _ _)
   | (with_reducible exact LeO.refl _)
   | (with_reducible exact LeO.none _)
   | (with_reducible refine LeO.ite ?_ ?_)
   | (with_reducible refine LeO.bind ?_ (fun _ => ?_))
   | exact LeO.none _
   | refine LeO.ite ?_ ?_
   | refine LeO.bind ?_ (fun _ => ?_)
  ·intro y0 y1 y2 y3 y4 y5
   unfold qI.l0
   repeat' first
   | (with_reducible exact ih0 _ _ _ _)
   | (with_reducible exact ih1 _ _ _)
   | (with_reducible exact ih2 _ _ _ _ _ _)
   | (with_reducible exact ih3 _ _ _ _ _ _ _)
   | (with_reducible exact qlb.mono _ _ _)
   | (with_reducible exact LeO.refl _)
   | (with_reducible exact LeO.none _)
   | (with_reducible refine LeO.ite ?_ ?_)
   | (with_reducible refine LeO.bind ?_ (fun _ => ?_))
   | exact LeO.none _
   | refine LeO.ite ?_ ?_
   | refine LeO.bind ?_ (fun _ => ?_)
  ·intro y0 y1 y2 y3 y4 y5 y6
   unfold qI.j1
   repeat' first
   | (with_reducible exact ih0 _ _ _ _)
   | (with_reducible exact ih1 _ _ _)
   | (with_reducible exact ih2 _ _ _ _ _ _)
   | (with_reducible exact ih3 _ _ _ _ _ _ _)
   | (with_reducible exact qlb.mono _ _ _)
   | (with_reducible exact LeO.refl _)
   | (with_reducible exact LeO.none _)
   | (with_reducible refine LeO.ite ?_ ?_)
   | (with_reducible refine LeO.bind ?_ (fun _ => ?_))
   | exact LeO.none _
   | refine LeO.ite ?_ ?_
   | refine LeO.bind ?_ (fun _ => ?_)
theorem qI.mono : ∀ a0 a1 k, LeO (qI.f k a0 a1) (qI.f (k + 1) a0 a1) := by
 intro a0 a1 k
 obtain ⟨ih0, ih1, ih2, ih3⟩ := qI.qjb k
 unfold qI.f
 repeat' first
   | (with_reducible exact ih0 _ _ _ _)
   | (with_reducible exact ih1 _ _ _)
   | (with_reducible exact ih2 _ _ _ _ _ _)
   | (with_reducible exact ih3 _ _ _ _ _ _ _)
   | (with_reducible exact qlb.mono _ _ _)
   | (with_reducible exact LeO.refl _)
   | (with_reducible exact LeO.none _)
   | (with_reducible refine LeO.ite ?_ ?_)
   | (with_reducible refine LeO.bind ?_ (fun _ => ?_))
   | exact LeO.none _
   | refine LeO.ite ?_ ?_
   | refine LeO.bind ?_ (fun _ => ?_)
set_option maxHeartbeats 8000000 in
set_option maxRecDepth 100000 in
theorem qI.calls (k : Nat) (a0 : ByteArray) (a1 : ByteArray) (r1 : List (S43)) (r2 : Int) (r3 : Bool) (w : World) (h : qI.f k a0 a1 = some (r1, r2, r3)) :
  Calls Try.prog 36 #[.string a0, .string a1] w fun e w' => ∃ v0_ : Value, e = .returned (.tuple #[v0_, .int .i64 r2, .bool r3]) ∧ Kd.R k43 43 w' w.heap.size (fun _ => True) v0_ r1 ∧ Below w.heap.size w w' := by
 have hu89 := Try.underlying89
 have hu43 := Try.underlying43
 have HB := qb.mk (Below.refl w.heap.size w)
 have H : ((qDb.f a1 false).bind fun bt220 => (qI.l0 k a0 (([] : List (S43))) bt220.1 0 bt220.2.1 bt220.2.2)) = some (r1, r2, r3) := h
 clear h
 obtain ⟨y217, hy217⟩ : ∃ y_ : List (S43), y_ = (([] : List (S43))) := ⟨_, rfl⟩
 replace H : ((qDb.f a1 false).bind fun bt220 => (qI.l0 k a0 y217 bt220.1 0 bt220.2.1 bt220.2.2)) = some (r1, r2, r3) := by first | (rw [hy217]; with_reducible exact H) | (have H2_ := (Option.bind_some _ _).symm.trans H; rw [hy217]; with_reducible exact H2_) | (have H2_ := (Option.bind_some _ _).symm.trans H; with_reducible exact H2_) | with_reducible exact H | (rw [hy217]; exact H) | exact H
 have Ny217 := qb.mk hy217
 clear hy217
 replace H := Option.bind_eq_some_iff.mp H
 obtain ⟨⟨t220, t221, t222⟩, A30, H⟩ := H
 try dsimp only at H
 have A3 := qb.mk A30
 clear A30
 have HC4 := qb.mk H
 clear H
 go_enter Try.func36, Try.ntmps36
 go_upto_block 0 with (first | ((with_reducible refine qcb (N := 15) rfl ?_); refine qpb ?hg (N := 15) ?hd (cs := #[.string a1, .bool false]) (t := 89) ?hr ?_; (case hd => rfl); (case hg => rfl); (case hr => first | (go_simp; done) | (go_simp; rfl)); intro gb216 hg w5 hbox hb; have BK216 := qb.mk (hbox); have GW216 := qb.mk ((by rw [hg]; exact (qG (by repeat (first | (with_reducible first | exact HB.out | apply qf | apply qg | apply qe) | exact HB.out))) : w.heap.size ≤ gb216)); have GE216 := qb.mk ((by rw [hg]; exact (qG (by repeat (first | (with_reducible first | exact HB.out | apply qf | apply qg | apply qe) | exact HB.out))) : w.heap.size ≤ gb216)); have HI216 := qb.mk ((show qj w w5 gb216 a1 false from ⟨hbox, (by rw [hg]; exact (qG (by repeat (first | (with_reducible first | exact HB.out | apply qf | apply qg | apply qe) | exact HB.out))) : w.heap.size ≤ gb216)⟩)); replace HB := qb.mk (qE (by repeat (first | (with_reducible first | exact HB.out | apply qf | apply qg | apply qe) | exact HB.out)) hb); clear hb hbox hg) | ((with_reducible refine qcb (N := 16) rfl ?_); refine Kd.R_lit k43 _ 43 ?hg (N := 16) ?hd (xs := ([] : List (S43))) (inner := []) (ok := fun _ => True) (okp := fun _ => True) ?hr ?hp (fun _ hk => hk) trivial (Below.refl _ _) (Nat.le_refl _) (by simp) ?_; (case hd => rfl); (case hg => rfl); (case hr => first | (go_simp; done) | (go_simp; rfl)); (case hp => exact (Reps.none _ _)); intro v218 w6 ho7 hb hg_ hnew_; clear hg_ hnew_; (first | rw [← Ny217.out] at ho7 | (simp only [Int.reduceToNat] at ho7; rw [← Ny217.out] at ho7)); have HO219 := qb.mk (Kd.qU ho7 (qG (by repeat (first | (with_reducible first | exact HB.out | apply qf | apply qg | apply qe | refine qk ?_ (qj.ge HI216.out)) | exact HB.out)))); replace HB := qb.mk (qE (by repeat (first | (with_reducible first | exact HB.out | apply qf | apply qg | apply qe | refine qk ?_ (qj.ge HI216.out)) | exact HB.out)) hb); replace HI216 := qb.mk (qj.below (by repeat (first | (with_reducible first | exact HI216.out | apply qj.alloc | apply qj.drewN | apply qj.drew | apply qj.set_0 | apply qj.set_1) | exact HI216.out)) hb); clear hb ho7) | ((with_reducible refine qy (f := 74) rfl ?_); refine qz (some 18) rfl rfl Try.func74 (by kernel_rfl) rfl #[.pointer (some ⟨gb216, 0, none⟩)] rfl (by (try simp only [List.map_toArray, List.map_cons, List.map_nil]); first | done | rfl | (simp only [List.length_drop, List.length_take]; rfl)) ?_; (with_reducible refine (qDb.calls gb216 a1 false t220 t221 t222 w _ ?side1 ?side2 A3.out).mono ?_); (case side1 => repeat (first | (with_reducible first | exact HI216.out | apply qj.alloc | apply qj.drewN | apply qj.drew | apply qj.set_0 | apply qj.set_1) | exact HI216.out)); (case side2 => repeat (first | (with_reducible first | exact HB.out | apply qf | apply qg | apply qe | refine qk ?_ (qj.ge HI216.out)) | exact HB.out)); rintro e w8 ⟨rfl, hi, hb, hk⟩; refine ⟨_, rfl, ?_⟩; replace HO219 := qb.mk (Kd.qF (Kd.qeb (qj.apart (show qj w _ gb216 a1 false from by repeat (first | (with_reducible first | exact HI216.out | apply qj.alloc | apply qj.drewN | apply qj.drew | apply qj.set_0 | apply qj.set_1) | exact HI216.out)) (by (with_reducible repeat (first | apply Kd.qo | apply Kd.qn | apply Kd.qm)); exact HO219.out) (by decide)) hk (fun _ h => h.2)) (fun _ h => h.1)); replace HB := qb.mk (hb); replace HI216 := qb.mk (hi); (try clear hb); (try clear hb2); (try clear hk); (try clear hi)))
 (try simp only [Act.put, List.setIfInBounds_toArray, List.set_cons_zero, List.set_cons_succ])
 go_cut [8] (fun v8 wc => ∃ (kq : Nat) (x8_3 : List (S43)) (x217000_3 : ByteArray) (x217001_3 : Bool), qb (qI.j2 kq a0 x8_3 x217000_3 x217001_3 = some (r1, r2, r3)) ∧ qb (kq ≤ k) ∧ qb (Kd.R k43 43 wc w.heap.size (fun _ => True) v8 x8_3) ∧ qb (qj w wc gb216 x217000_3 x217001_3) ∧ qb (Below w.heap.size w wc))
 case first =>
  have H := HC4.out
  clear HC4
  have H' := qb.mk H
  clear H
  go_wp2
  go_loopg [8, 10] k (fun kq v8 v10 w' => ∃ (x8_1 : List (S43)) (x10_1 : Int) (x217000_1 : ByteArray) (x217001_1 : Bool), v10 = .int .i64 x10_1 ∧ qb (qI.l0 kq a0 x8_1 t220 x10_1 x217000_1 x217001_1 = some (r1, r2, r3)) ∧ qb (kq ≤ k) ∧ qb (Kd.R k43 43 w' w.heap.size (fun _ => True) v8 x8_1) ∧ qb (qj w w' gb216 x217000_1 x217001_1) ∧ qb (Below w.heap.size w w'))
  case atStart => exact ⟨(y217), (0), (t221), (t222), (by first | rfl | (simp; done) | (simp [*]; done)), H', ⟨Nat.le_refl _⟩, ⟨by (with_reducible repeat (first | apply Kd.qo | apply Kd.qn | apply Kd.qm)); exact HO219.out⟩, ⟨by repeat (first | (with_reducible first | exact HI216.out | apply qj.alloc | apply qj.drewN | apply qj.drew | apply qj.set_0 | apply qj.set_1) | exact HI216.out)⟩, ⟨by repeat (first | (with_reducible first | exact HB.out | apply qf | apply qg | apply qe | refine qk ?_ (qj.ge HI216.out)) | exact HB.out)⟩⟩
  case round =>
   clear H'
   try clear p2
   try clear c3
   try clear c7
   obtain ⟨x8_1, x10_1, x217000_1, x217001_1, rfl, HA, HK1, HO_8, HI216, HB⟩ := hrel
   cases gk with
   | zero => exact absurd HA.out (by simp [qI.l0])
   | succ k1 =>
    have H := HA.out
    clear HA
    simp only [qI.l0] at H
    have HC9 := qb.mk H
    clear H
    go_upto_region 4 with (fail)
    go_cut [28] (fun v28 wc => ∃ (kq : Nat) (x28_8 : Bool), v28 = .bool x28_8 ∧ qb (qI.j1 kq a0 x8_1 t220 x10_1 x28_8 x217000_1 x217001_1 = some (r1, r2, r3)) ∧ qb (kq ≤ k1) ∧ qb (Kd.R k43 43 wc w.heap.size (fun _ => True) u8 x8_1) ∧ qb (qj w wc gb216 x217000_1 x217001_1) ∧ qb (Below w.heap.size w wc))
    case first =>
     have H := HC9.out
     clear HC9
     by_cases c10 : x10_1 < t220
     ·rw [if_pos c10] at H
      have c10b0 : decide (x10_1 < t220) = true := decide_eq_true c10
      clear c10
      (first | rw [c10b0] | (simp only [i64_w, i32_w]; rw [c10b0]) | skip)
      have H' := qb.mk H
      clear H
      obtain ⟨HGz11, hgz11⟩ := HI216.out
      have hcz11_0 := qUb HGz11
      have hcz11_1 := qVb HGz11
      have hfz11_0 := qp HGz11 0
      have hfz11_1 := qp HGz11 1
      clear HGz11 hgz11
      go_wp2
      go_meet
      case rel => exact ⟨_, (!x217001_1), (by first | rfl | (simp; done) | (simp [*]; done)), H', ⟨by have := HK1.out; first | omega | exact Nat.le_refl _⟩, ⟨by (with_reducible repeat (first | apply Kd.qo | apply Kd.qn | apply Kd.qm)); exact HO_8.out⟩, ⟨by repeat (first | (with_reducible first | exact HI216.out | apply qj.alloc | apply qj.drewN | apply qj.drew | apply qj.set_0 | apply qj.set_1) | exact HI216.out)⟩, ⟨by repeat (first | (with_reducible first | exact HB.out | apply qf | apply qg | apply qe | refine qk ?_ (qj.ge HI216.out)) | exact HB.out)⟩⟩
     ·rw [if_neg c10] at H
      have c10b0 : decide (x10_1 < t220) = false := decide_eq_false c10
      clear c10
      (first | rw [c10b0] | (simp only [i64_w, i32_w]; rw [c10b0]) | skip)
      have H' := qb.mk H
      clear H
      go_wp2
      go_meet
      case rel => exact ⟨_, (false), (by first | rfl | (simp; done) | (simp [*]; done)), H', ⟨by have := HK1.out; first | omega | exact Nat.le_refl _⟩, ⟨by (with_reducible repeat (first | apply Kd.qo | apply Kd.qn | apply Kd.qm)); exact HO_8.out⟩, ⟨by repeat (first | (with_reducible first | exact HI216.out | apply qj.alloc | apply qj.drewN | apply qj.drew | apply qj.set_0 | apply qj.set_1) | exact HI216.out)⟩, ⟨by repeat (first | (with_reducible first | exact HB.out | apply qf | apply qg | apply qe | refine qk ?_ (qj.ge HI216.out)) | exact HB.out)⟩⟩
    case rest =>
     clear HC9
     try clear c1
     try clear p2
     try clear c3
     try clear c7
     try clear c10
     try clear c10b0
     try clear hcz11_0
     try clear hcz11_1
     try clear hfz11_0
     try clear hfz11_1
     try clear p2
     obtain ⟨kq, x28_8, rfl, HA, HJ8, HO_8, HI216, HB⟩ := hcut
     cases kq with
     | zero => exact absurd HA.out (by simp [qI.j1])
     | succ kj8 =>
      have H := HA.out
      clear HA
      simp only [qI.j1] at H
      by_cases c12 : x28_8 = true
      ·subst c12
       rw [if_pos rfl] at H
       replace H := Option.bind_eq_some_iff.mp H
       obtain ⟨⟨t223, t224, t225⟩, A130, H⟩ := H
       try dsimp only at H
       have A13 := qb.mk A130
       clear A130
       by_cases c14 : t225 = true
       ·subst c14
        rw [if_pos rfl] at H
        have H' := qb.mk H
        clear H
        go_wp2_with (first | ((with_reducible refine qy (f := 75) rfl ?_); refine qz (some 33) rfl rfl Try.func75 (by kernel_rfl) rfl #[.pointer (some ⟨gb216, 0, none⟩), .int .i64 1] rfl (by (try simp only [List.map_toArray, List.map_cons, List.map_nil]); first | done | rfl | (simp only [List.length_drop, List.length_take]; rfl)) ?_; (with_reducible refine (qxb.calls gb216 x217000_1 x217001_1 1 t223 t224 true w _ ?side1 ?side2 A13.out).mono ?_); (case side1 => repeat (first | (with_reducible first | exact HI216.out | apply qj.alloc | apply qj.drewN | apply qj.drew | apply qj.set_0 | apply qj.set_1) | exact HI216.out)); (case side2 => repeat (first | (with_reducible first | exact HB.out | apply qf | apply qg | apply qe | refine qk ?_ (qj.ge HI216.out)) | exact HB.out)); rintro e w15 ⟨rfl, hi, hb, hk⟩; refine ⟨_, rfl, ?_⟩; replace HO_8 := qb.mk (Kd.qF (Kd.qeb (qj.apart (show qj w _ gb216 x217000_1 x217001_1 from by repeat (first | (with_reducible first | exact HI216.out | apply qj.alloc | apply qj.drewN | apply qj.drew | apply qj.set_0 | apply qj.set_1) | exact HI216.out)) (by (with_reducible repeat (first | apply Kd.qo | apply Kd.qn | apply Kd.qm)); exact HO_8.out) (by decide)) hk (fun _ h => h.2)) (fun _ h => h.1)); replace HB := qb.mk (hb); replace HI216 := qb.mk (hi); (try clear hb); (try clear hb2); (try clear hk); (try clear hi)) | ((with_reducible refine qcb (N := 11) rfl ?_); refine qpb ?hg (N := 11) ?hd (cs := #[.int .i64 0, .int .i64 0, .int .i64 0, .string (⟨#[]⟩ : ByteArray)]) (t := 43) ?hr ?_; (case hd => rfl); (case hg => rfl); (case hr => first | (go_simp; done) | (go_simp; rfl)); intro gb226 hg w16 hbox hb; have BK226 := qb.mk (hbox); have GW226 := qb.mk ((by rw [hg]; exact (qG (by repeat (first | (with_reducible first | exact HB.out | apply qf | apply qg | apply qe | refine qk ?_ (qj.ge HI216.out)) | exact HB.out))) : w.heap.size ≤ gb226)); have GE226 := qb.mk ((by rw [hg]; exact (qG (by repeat (first | (with_reducible first | exact HB.out | apply qf | apply qg | apply qe | refine qk ?_ (qj.ge HI216.out)) | exact HB.out))) : w.heap.size ≤ gb226)); have NB216_226 := qb.mk ((by rw [hg]; exact Nat.ne_of_lt (qj.lt (show qj w _ gb216 t224 true from by repeat (first | (with_reducible first | exact HI216.out | apply qj.alloc | apply qj.drewN | apply qj.drew | apply qj.set_0 | apply qj.set_1) | exact HI216.out))) : gb216 ≠ gb226)); have NB226_216 := qb.mk ((by rw [hg]; exact Nat.ne_of_gt (qj.lt (show qj w _ gb216 t224 true from by repeat (first | (with_reducible first | exact HI216.out | apply qj.alloc | apply qj.drewN | apply qj.drew | apply qj.set_0 | apply qj.set_1) | exact HI216.out))) : gb226 ≠ gb216)); replace HO_8 := qb.mk (Kd.qX (Kd.qqc (by (with_reducible repeat (first | apply Kd.qo | apply Kd.qn | apply Kd.qm)); exact HO_8.out) gb226 (Nat.le_of_eq hg.symm)) hb); replace HB := qb.mk (qE (by repeat (first | (with_reducible first | exact HB.out | apply qf | apply qg | apply qe | refine qk ?_ (qj.ge HI216.out)) | exact HB.out)) hb); replace HI216 := qb.mk (qj.below (by repeat (first | (with_reducible first | exact HI216.out | apply qj.alloc | apply qj.drewN | apply qj.drew | apply qj.set_0 | apply qj.set_1) | exact HI216.out)) hb); clear hb hbox hg; have hnb17 := NB226_216.out; have hnc17 := NB216_226.out; have hcz18_0 : w16.cell? ⟨gb226, 0, none⟩ = some (.int .i64 0) := (ql BK226.out 0).trans rfl; have hcz18_1 : w16.cell? ⟨gb226, 1, none⟩ = some (.int .i64 0) := (ql BK226.out 1).trans rfl; have hcz18_2 : w16.cell? ⟨gb226, 2, none⟩ = some (.int .i64 0) := (ql BK226.out 2).trans rfl; have hcz18_3 : w16.cell? ⟨gb226, 3, none⟩ = some (.string (⟨#[]⟩ : ByteArray)) := (ql BK226.out 3).trans rfl; have hfz18_0 := qp BK226.out 0; have hfz18_1 := qp BK226.out 1; have hfz18_2 := qp BK226.out 2; have hfz18_3 := qp BK226.out 3; obtain ⟨HGz19, hgz19⟩ := HI216.out; have hcz19_0 := qUb HGz19; have hcz19_1 := qVb HGz19; have hfz19_0 := qp HGz19 0; have hfz19_1 := qp HGz19 1; clear HGz19 hgz19))
        go_meet
        case rel => exact ⟨_, (x8_1), (t224), (true), H', ⟨by have := HK1.out; have := HJ8.out; first | omega | exact Nat.le_refl _⟩, ⟨by (with_reducible repeat (first | apply Kd.qo | apply Kd.qn | apply Kd.qm)); exact Kd.qF (Kd.R_far (p := ⟨gb226, 3, none⟩) (Kd.R_far (p := ⟨gb226, 2, none⟩) (Kd.R_far (p := ⟨gb226, 1, none⟩) (Kd.R_far (p := ⟨gb226, 0, none⟩) (Kd.qF HO_8.out (fun k_ hk => (⟨hk, hk.2⟩ : _ ∧ k_ ≠ gb226))) (fun _ hk => hk.2) (.int .i64 0)) (fun _ hk => hk.2) (.int .i64 0)) (fun _ hk => hk.2) (.int .i64 0)) (fun _ hk => hk.2) (.string (⟨#[]⟩ : ByteArray))) (fun _ hk => trivial)⟩, ⟨by repeat (first | (with_reducible first | exact HI216.out | apply qj.alloc | apply qj.drewN | apply qj.drew | apply qj.set_0 | apply qj.set_1 | refine qj.far ?_ NB216_226.out _) | exact HI216.out)⟩, ⟨by repeat (first | (with_reducible first | exact HB.out | apply qf | apply qg | apply qe | refine qk ?_ (qj.ge HI216.out) | refine qk ?_ GE226.out) | exact HB.out)⟩⟩
       ·replace c14 := Bool.eq_false_iff.mpr c14
        subst c14
        rw [if_neg (show ¬ (false = true) by decide)] at H
        by_cases c20 : 0 < (t223.size : Int)
        ·rw [if_pos c20] at H
         have c20b0 : decide (0 < (t223.size : Int)) = true := decide_eq_true c20
         have c20b1 : decide (0 < t223.size) = true := decide_eq_true (by omega)
         clear c20
         by_cases c22 : (wrap64 (bt t223 0)) = 1
         ·rw [if_pos c22] at H
          have c22b0 : ((wrap64 (bt t223 0)) == 1) = true := beq_iff_eq.mpr c22
          have c22b1 : ((wrap64 (bt t223 0)) != 1) = false := bne_eq_false_iff_eq.mpr c22
          clear c22
          replace H := Option.bind_eq_some_iff.mp H
          obtain ⟨⟨t227, t228, t229⟩, A230, H⟩ := H
          try dsimp only at H
          have A23 := qb.mk A230
          clear A230
          replace H := Option.bind_eq_some_iff.mp H
          obtain ⟨⟨t230, t231, t232⟩, A240, H⟩ := H
          try dsimp only at H
          have A24 := qb.mk A240
          clear A240
          by_cases c25 : x8_1.length < 3518437208883
          ·rw [if_pos c25] at H
           have LMc25 := qb.mk c25
           clear c25
           obtain ⟨y233, hy233⟩ : ∃ y_ : List (S43), y_ = (x8_1 ++ [(⟨wrap64 (bt t223 0), t227, t230, (⟨#[]⟩ : ByteArray)⟩ : S43)]) := ⟨_, rfl⟩
           replace H : (qI.l0 kj8 a0 y233 t220 (wrap64 (x10_1 + 1)) t231 t232) = some (r1, r2, r3) := by first | (rw [hy233]; with_reducible exact H) | (have H2_ := (Option.bind_some _ _).symm.trans H; rw [hy233]; with_reducible exact H2_) | (have H2_ := (Option.bind_some _ _).symm.trans H; with_reducible exact H2_) | with_reducible exact H | (rw [hy233]; exact H) | exact H
           have Ny233 := qb.mk hy233
           clear hy233
           have H' := qb.mk H
           clear H
           go_wp2_with (first | ((with_reducible refine qy (f := 75) rfl ?_); refine qz (some 33) rfl rfl Try.func75 (by kernel_rfl) rfl #[.pointer (some ⟨gb216, 0, none⟩), .int .i64 1] rfl (by (try simp only [List.map_toArray, List.map_cons, List.map_nil]); first | done | rfl | (simp only [List.length_drop, List.length_take]; rfl)) ?_; (with_reducible refine (qxb.calls gb216 x217000_1 x217001_1 1 t223 t224 false w _ ?side1 ?side2 A13.out).mono ?_); (case side1 => repeat (first | (with_reducible first | exact HI216.out | apply qj.alloc | apply qj.drewN | apply qj.drew | apply qj.set_0 | apply qj.set_1) | exact HI216.out)); (case side2 => repeat (first | (with_reducible first | exact HB.out | apply qf | apply qg | apply qe | refine qk ?_ (qj.ge HI216.out)) | exact HB.out)); rintro e w26 ⟨rfl, hi, hb, hk⟩; refine ⟨_, rfl, ?_⟩; replace HO_8 := qb.mk (Kd.qF (Kd.qeb (qj.apart (show qj w _ gb216 x217000_1 x217001_1 from by repeat (first | (with_reducible first | exact HI216.out | apply qj.alloc | apply qj.drewN | apply qj.drew | apply qj.set_0 | apply qj.set_1) | exact HI216.out)) (by (with_reducible repeat (first | apply Kd.qo | apply Kd.qn | apply Kd.qm)); exact HO_8.out) (by decide)) hk (fun _ h => h.2)) (fun _ h => h.1)); replace HB := qb.mk (hb); replace HI216 := qb.mk (hi); (try clear hb); (try clear hb2); (try clear hk); (try clear hi)) | ((with_reducible refine qcb (N := 11) rfl ?_); refine qpb ?hg (N := 11) ?hd (cs := #[.int .i64 0, .int .i64 0, .int .i64 0, .string (⟨#[]⟩ : ByteArray)]) (t := 43) ?hr ?_; (case hd => rfl); (case hg => rfl); (case hr => first | (go_simp; done) | (go_simp; rfl)); intro gb226 hg w27 hbox hb; have BK226 := qb.mk (hbox); have GW226 := qb.mk ((by rw [hg]; exact (qG (by repeat (first | (with_reducible first | exact HB.out | apply qf | apply qg | apply qe | refine qk ?_ (qj.ge HI216.out)) | exact HB.out))) : w.heap.size ≤ gb226)); have GE226 := qb.mk ((by rw [hg]; exact (qG (by repeat (first | (with_reducible first | exact HB.out | apply qf | apply qg | apply qe | refine qk ?_ (qj.ge HI216.out)) | exact HB.out))) : w.heap.size ≤ gb226)); have NB216_226 := qb.mk ((by rw [hg]; exact Nat.ne_of_lt (qj.lt (show qj w _ gb216 t224 false from by repeat (first | (with_reducible first | exact HI216.out | apply qj.alloc | apply qj.drewN | apply qj.drew | apply qj.set_0 | apply qj.set_1) | exact HI216.out))) : gb216 ≠ gb226)); have NB226_216 := qb.mk ((by rw [hg]; exact Nat.ne_of_gt (qj.lt (show qj w _ gb216 t224 false from by repeat (first | (with_reducible first | exact HI216.out | apply qj.alloc | apply qj.drewN | apply qj.drew | apply qj.set_0 | apply qj.set_1) | exact HI216.out))) : gb226 ≠ gb216)); replace HO_8 := qb.mk (Kd.qX (Kd.qqc (by (with_reducible repeat (first | apply Kd.qo | apply Kd.qn | apply Kd.qm)); exact HO_8.out) gb226 (Nat.le_of_eq hg.symm)) hb); replace HB := qb.mk (qE (by repeat (first | (with_reducible first | exact HB.out | apply qf | apply qg | apply qe | refine qk ?_ (qj.ge HI216.out)) | exact HB.out)) hb); replace HI216 := qb.mk (qj.below (by repeat (first | (with_reducible first | exact HI216.out | apply qj.alloc | apply qj.drewN | apply qj.drew | apply qj.set_0 | apply qj.set_1) | exact HI216.out)) hb); clear hb hbox hg; have hnb28 := NB226_216.out; have hnc28 := NB216_226.out; have hcz29_0 : w27.cell? ⟨gb226, 0, none⟩ = some (.int .i64 0) := (ql BK226.out 0).trans rfl; have hcz29_1 : w27.cell? ⟨gb226, 1, none⟩ = some (.int .i64 0) := (ql BK226.out 1).trans rfl; have hcz29_2 : w27.cell? ⟨gb226, 2, none⟩ = some (.int .i64 0) := (ql BK226.out 2).trans rfl; have hcz29_3 : w27.cell? ⟨gb226, 3, none⟩ = some (.string (⟨#[]⟩ : ByteArray)) := (ql BK226.out 3).trans rfl; have hfz29_0 := qp BK226.out 0; have hfz29_1 := qp BK226.out 1; have hfz29_2 := qp BK226.out 2; have hfz29_3 := qp BK226.out 3; obtain ⟨HGz30, hgz30⟩ := HI216.out; have hcz30_0 := qUb HGz30; have hcz30_1 := qVb HGz30; have hfz30_0 := qp HGz30 0; have hfz30_1 := qp HGz30 1; clear HGz30 hgz30; have p21 : 0 ≤ (0 : Int) := (by omega); have q21 : 0 < t223.size := (by have : (0 : Int) < (t223.size : Int) := of_decide_eq_true (by first | (with_reducible assumption) | assumption); omega); have hx21 : ∀ h : 0 < t223.size, ((t223[0]'h).toNat : Int) = bt t223 0 := bt_at t223 0; clear p21; have qi21 : (0 < (t223.size : Int)) = True := eq_true (of_decide_eq_true (by first | (with_reducible assumption) | assumption)); replace q21 := eq_true q21) | ((with_reducible refine qy (f := 74) rfl ?_); refine qz (some 47) rfl rfl Try.func74 (by kernel_rfl) rfl #[.pointer (some ⟨gb216, 0, none⟩)] rfl (by (try simp only [List.map_toArray, List.map_cons, List.map_nil]); first | done | rfl | (simp only [List.length_drop, List.length_take]; rfl)) ?_; (with_reducible refine (qDb.calls gb216 t224 false t227 t228 t229 w _ ?side1 ?side2 A23.out).mono ?_); (case side1 => repeat (first | (with_reducible first | exact HI216.out | apply qj.alloc | apply qj.drewN | apply qj.drew | apply qj.set_0 | apply qj.set_1 | refine qj.far ?_ NB216_226.out _) | exact HI216.out)); (case side2 => repeat (first | (with_reducible first | exact HB.out | apply qf | apply qg | apply qe | refine qk ?_ (qj.ge HI216.out) | refine qk ?_ GE226.out) | exact HB.out)); rintro e w31 ⟨rfl, hi, hb, hk⟩; refine ⟨_, rfl, ?_⟩; replace HO_8 := qb.mk (Kd.qF (Kd.qeb (qj.apart (show qj w _ gb216 t224 false from by repeat (first | (with_reducible first | exact HI216.out | apply qj.alloc | apply qj.drewN | apply qj.drew | apply qj.set_0 | apply qj.set_1 | refine qj.far ?_ NB216_226.out _) | exact HI216.out)) (by (with_reducible repeat (first | apply Kd.qo | apply Kd.qn | apply Kd.qm)); exact (Kd.qF (Kd.R_far (p := ⟨gb226, 0, none⟩) (Kd.R_far (p := ⟨gb226, 3, none⟩) (Kd.R_far (p := ⟨gb226, 2, none⟩) (Kd.R_far (p := ⟨gb226, 1, none⟩) (Kd.R_far (p := ⟨gb226, 0, none⟩) (Kd.qF HO_8.out (fun k_ hk => (⟨hk, hk.2⟩ : _ ∧ k_ ≠ gb226))) (fun _ hk => hk.2) (.int .i64 0)) (fun _ hk => hk.2) (.int .i64 0)) (fun _ hk => hk.2) (.int .i64 0)) (fun _ hk => hk.2) (.string (⟨#[]⟩ : ByteArray))) (fun _ hk => hk.2) (.int .i64 (wrap64 (bt t223 0)))) (fun _ h_ => h_.1))) (by decide)) hk (fun _ h => h.2)) (fun _ h => h.1)); replace BK226 := qb.mk (qh.blk hk (g' := gb226) (o := .cells #[.int .i64 (wrap64 (bt t223 0)), .int .i64 0, .int .i64 0, .string (⟨#[]⟩ : ByteArray)] 43 (0, 0)) (by (with_reducible repeat (first | refine qB ?_ _ | refine qx ?_ | refine qC ?_ _)); refine qL (cs := #[.int .i64 0, .int .i64 0, .int .i64 0, .string (⟨#[]⟩ : ByteArray)]) ?_ 0 _ rfl; (with_reducible repeat (first | refine qB ?_ _ | refine qx ?_ | refine qC ?_ _)); refine qL (cs := #[.int .i64 0, .int .i64 0, .int .i64 0, .string (⟨#[]⟩ : ByteArray)]) ?_ 3 _ rfl; (with_reducible repeat (first | refine qB ?_ _ | refine qx ?_ | refine qC ?_ _)); refine qL (cs := #[.int .i64 0, .int .i64 0, .int .i64 0, .string (⟨#[]⟩ : ByteArray)]) ?_ 2 _ rfl; (with_reducible repeat (first | refine qB ?_ _ | refine qx ?_ | refine qC ?_ _)); refine qL (cs := #[.int .i64 0, .int .i64 0, .int .i64 0, .string (⟨#[]⟩ : ByteArray)]) ?_ 1 _ rfl; (with_reducible repeat (first | refine qB ?_ _ | refine qx ?_ | refine qC ?_ _)); refine qL (cs := #[.int .i64 0, .int .i64 0, .int .i64 0, .string (⟨#[]⟩ : ByteArray)]) ?_ 0 _ rfl; (with_reducible repeat (first | refine qB ?_ _ | refine qx ?_ | refine qC ?_ _)); exact BK226.out) NB226_216.out (by simp)); replace HB := qb.mk (hb); replace HI216 := qb.mk (hi); (try clear hb); (try clear hb2); (try clear hk); (try clear hi)) | ((with_reducible refine qy (f := 74) rfl ?_); refine qz (some 49) rfl rfl Try.func74 (by kernel_rfl) rfl #[.pointer (some ⟨gb216, 0, none⟩)] rfl (by (try simp only [List.map_toArray, List.map_cons, List.map_nil]); first | done | rfl | (simp only [List.length_drop, List.length_take]; rfl)) ?_; (with_reducible refine (qDb.calls gb216 t228 t229 t230 t231 t232 w _ ?side1 ?side2 A24.out).mono ?_); (case side1 => repeat (first | (with_reducible first | exact HI216.out | apply qj.alloc | apply qj.drewN | apply qj.drew | apply qj.set_0 | apply qj.set_1 | refine qj.far ?_ NB216_226.out _) | exact HI216.out)); (case side2 => repeat (first | (with_reducible first | exact HB.out | apply qf | apply qg | apply qe | refine qk ?_ (qj.ge HI216.out) | refine qk ?_ GE226.out) | exact HB.out)); rintro e w32 ⟨rfl, hi, hb, hk⟩; refine ⟨_, rfl, ?_⟩; replace HO_8 := qb.mk (Kd.qF (Kd.qeb (qj.apart (show qj w _ gb216 t228 t229 from by repeat (first | (with_reducible first | exact HI216.out | apply qj.alloc | apply qj.drewN | apply qj.drew | apply qj.set_0 | apply qj.set_1 | refine qj.far ?_ NB216_226.out _) | exact HI216.out)) (by (with_reducible repeat (first | apply Kd.qo | apply Kd.qn | apply Kd.qm)); exact HO_8.out) (by decide)) hk (fun _ h => h.2)) (fun _ h => h.1)); replace BK226 := qb.mk (qh.blk hk (g' := gb226) (o := .cells #[.int .i64 (wrap64 (bt t223 0)), .int .i64 0, .int .i64 0, .string (⟨#[]⟩ : ByteArray)] 43 (0, 0)) (by (with_reducible repeat (first | refine qB ?_ _ | refine qx ?_ | refine qC ?_ _)); exact BK226.out) NB226_216.out (by simp)); replace HB := qb.mk (hb); replace HI216 := qb.mk (hi); (try clear hb); (try clear hb2); (try clear hk); (try clear hi); have hcz33_0 : w32.cell? ⟨gb226, 0, none⟩ = some (.int .i64 (wrap64 (bt t223 0))) := (ql BK226.out 0).trans rfl; have hcz33_1 : w32.cell? ⟨gb226, 1, none⟩ = some (.int .i64 0) := (ql BK226.out 1).trans rfl; have hcz33_2 : w32.cell? ⟨gb226, 2, none⟩ = some (.int .i64 0) := (ql BK226.out 2).trans rfl; have hcz33_3 : w32.cell? ⟨gb226, 3, none⟩ = some (.string (⟨#[]⟩ : ByteArray)) := (ql BK226.out 3).trans rfl; have hfz33_0 := qp BK226.out 0; have hfz33_1 := qp BK226.out 1; have hfz33_2 := qp BK226.out 2; have hfz33_3 := qp BK226.out 3) | ((with_reducible refine qhc (b := .append) (xs := #[.tmp 59, .tmp 61]) rfl ?_); at_builtin; refine Kd.qkc k43 (w0 := w) w.heap.size rfl (.tmp 59) (.tmp 61) 26 43 (.agg #[(.int .i64 0), (.int .i64 0), (.int .i64 0), (.string ⟨#[]⟩)]) 40 rfl Try.underlying26 info43 rfl (by decide) (by omega) u8 x8_1 (⟨wrap64 (bt t223 0), t227, t230, (⟨#[]⟩ : ByteArray)⟩ : S43) [.int .i64 (wrap64 (bt t223 0)), .int .i64 t227, .int .i64 t230, .string (⟨#[]⟩ : ByteArray)] (fun k_ => k_ ≠ gb226) (fun _ => False) rfl (by first | (go_simp; done) | (go_simp; rfl)) ?aP (fun _ hk => hk.elim) ?aF ?aO ?aB ?aS ?aL ?_; (case aP => exact qvb _ _ _ (⟨wrap64 (bt t223 0), t227, t230, (⟨#[]⟩ : ByteArray)⟩ : S43)); (case aB => exact (by repeat (first | (with_reducible first | exact HB.out | apply qf | apply qg | apply qe | refine qk ?_ (qj.ge HI216.out) | refine qk ?_ GE226.out) | exact HB.out))); (case aF => exact (fun k_ hk => Kd.freshB (g := gb226) (o := .cells #[.int .i64 (wrap64 (bt t223 0)), .int .i64 t227, .int .i64 t230, .string (⟨#[]⟩ : ByteArray)] 43 (0, 0)) (by (with_reducible repeat (first | refine qB ?_ _ | refine qx ?_ | refine qC ?_ _)); refine qL (cs := #[.int .i64 (wrap64 (bt t223 0)), .int .i64 t227, .int .i64 0, .string (⟨#[]⟩ : ByteArray)]) ?_ 2 _ rfl; (with_reducible repeat (first | refine qB ?_ _ | refine qx ?_ | refine qC ?_ _)); refine qL (cs := #[.int .i64 (wrap64 (bt t223 0)), .int .i64 0, .int .i64 0, .string (⟨#[]⟩ : ByteArray)]) ?_ 1 _ rfl; (with_reducible repeat (first | refine qB ?_ _ | refine qx ?_ | refine qC ?_ _)); exact BK226.out) k_ hk)); (case aO => exact (by (with_reducible repeat (first | apply Kd.qo | apply Kd.qn | apply Kd.qm)); exact Kd.qF (Kd.R_far (p := ⟨gb226, 2, none⟩) (Kd.R_far (p := ⟨gb226, 1, none⟩) (Kd.qF HO_8.out (fun k_ hk => (⟨hk, hk.2⟩ : _ ∧ k_ ≠ gb226))) (fun _ hk => hk.2) (.int .i64 t227)) (fun _ hk => hk.2) (.int .i64 t230)) (fun _ hk => hk.1.2))); (case aS => exact (qG (by repeat (first | (with_reducible first | exact HB.out | apply qf | apply qg | apply qe | refine qk ?_ (qj.ge HI216.out) | refine qk ?_ GE226.out) | exact HB.out)))); (case aL => have := LMc25.out; omega); intro v234 w34 ho hb hg hat; rw [← Ny233.out] at ho; have HO235 := qb.mk (ho); replace HI216 := qb.mk (qj.grown (show qj w _ gb216 t231 t232 from by repeat (first | (with_reducible first | exact HI216.out | apply qj.alloc | apply qj.drewN | apply qj.drew | apply qj.set_0 | apply qj.set_1 | refine qj.far ?_ NB216_226.out _) | exact HI216.out)) hg (qj.own_ne HI216.out HO_8.out (by decide))); replace BK226 := qb.mk (qJb (g := gb226) (o := .cells #[.int .i64 (wrap64 (bt t223 0)), .int .i64 t227, .int .i64 t230, .string (⟨#[]⟩ : ByteArray)] 43 (0, 0)) (by (with_reducible repeat (first | refine qB ?_ _ | refine qx ?_ | refine qC ?_ _)); refine qL (cs := #[.int .i64 (wrap64 (bt t223 0)), .int .i64 t227, .int .i64 0, .string (⟨#[]⟩ : ByteArray)]) ?_ 2 _ rfl; (with_reducible repeat (first | refine qB ?_ _ | refine qx ?_ | refine qC ?_ _)); refine qL (cs := #[.int .i64 (wrap64 (bt t223 0)), .int .i64 0, .int .i64 0, .string (⟨#[]⟩ : ByteArray)]) ?_ 1 _ rfl; (with_reducible repeat (first | refine qB ?_ _ | refine qx ?_ | refine qC ?_ _)); exact BK226.out) hg (Kd.qfc HO_8.out (fun _ hk => hk.2))); replace HB := qb.mk (hb); clear HO_8; clear ho hb hg hat))
           go_roundg kj8
           case measure => have := HK1.out; have := HJ8.out; omega
           case rel => exact ⟨(y233), (wrap64 (x10_1 + 1)), (t231), (t232), (by first | rfl | (simp; done) | (simp [*]; done)), H', ⟨by have := HK1.out; have := HJ8.out; omega⟩, ⟨by (with_reducible repeat (first | apply Kd.qo | apply Kd.qn | apply Kd.qm)); exact Kd.qF HO235.out (fun _ hk => trivial)⟩, ⟨by repeat (first | (with_reducible first | exact HI216.out | apply qj.alloc | apply qj.drewN | apply qj.drew | apply qj.set_0 | apply qj.set_1 | refine qj.far ?_ NB216_226.out _) | exact HI216.out)⟩, ⟨by repeat (first | (with_reducible first | exact HB.out | apply qf | apply qg | apply qe | refine qk ?_ (qj.ge HI216.out) | refine qk ?_ GE226.out) | exact HB.out)⟩⟩
          ·rw [if_neg c25] at H
           exact absurd H (by simp)
         ·rw [if_neg c22] at H
          have c22b0 : ((wrap64 (bt t223 0)) == 1) = false := beq_eq_false_iff_ne.mpr c22
          have c22b1 : ((wrap64 (bt t223 0)) != 1) = true := bne_iff_ne.mpr c22
          by_cases c35 : (wrap64 (bt t223 0)) = 2
          ·rw [if_pos c35] at H
           have c35b0 : ((wrap64 (bt t223 0)) == 2) = true := beq_iff_eq.mpr c35
           have c35b1 : ((wrap64 (bt t223 0)) != 2) = false := bne_eq_false_iff_eq.mpr c35
           clear c35
           replace H := Option.bind_eq_some_iff.mp H
           obtain ⟨⟨t236, t237, t238⟩, A360, H⟩ := H
           try dsimp only at H
           have A36 := qb.mk A360
           clear A360
           replace H := Option.bind_eq_some_iff.mp H
           obtain ⟨⟨t239, t240, t241⟩, A370, H⟩ := H
           try dsimp only at H
           have A37 := qb.mk A370
           clear A370
           by_cases c38 : x8_1.length < 3518437208883
           ·rw [if_pos c38] at H
            have LMc38 := qb.mk c38
            clear c38
            obtain ⟨y242, hy242⟩ : ∃ y_ : List (S43), y_ = (x8_1 ++ [(⟨wrap64 (bt t223 0), 0, 0, t239⟩ : S43)]) := ⟨_, rfl⟩
            replace H : (qI.l0 kj8 a0 y242 t220 (wrap64 (x10_1 + 1)) t240 t241) = some (r1, r2, r3) := by first | (rw [hy242]; with_reducible exact H) | (have H2_ := (Option.bind_some _ _).symm.trans H; rw [hy242]; with_reducible exact H2_) | (have H2_ := (Option.bind_some _ _).symm.trans H; with_reducible exact H2_) | with_reducible exact H | (rw [hy242]; exact H) | exact H
            have Ny242 := qb.mk hy242
            clear hy242
            have H' := qb.mk H
            clear H
            go_wp2_with (first | ((with_reducible refine qy (f := 75) rfl ?_); refine qz (some 33) rfl rfl Try.func75 (by kernel_rfl) rfl #[.pointer (some ⟨gb216, 0, none⟩), .int .i64 1] rfl (by (try simp only [List.map_toArray, List.map_cons, List.map_nil]); first | done | rfl | (simp only [List.length_drop, List.length_take]; rfl)) ?_; (with_reducible refine (qxb.calls gb216 x217000_1 x217001_1 1 t223 t224 false w _ ?side1 ?side2 A13.out).mono ?_); (case side1 => repeat (first | (with_reducible first | exact HI216.out | apply qj.alloc | apply qj.drewN | apply qj.drew | apply qj.set_0 | apply qj.set_1) | exact HI216.out)); (case side2 => repeat (first | (with_reducible first | exact HB.out | apply qf | apply qg | apply qe | refine qk ?_ (qj.ge HI216.out)) | exact HB.out)); rintro e w39 ⟨rfl, hi, hb, hk⟩; refine ⟨_, rfl, ?_⟩; replace HO_8 := qb.mk (Kd.qF (Kd.qeb (qj.apart (show qj w _ gb216 x217000_1 x217001_1 from by repeat (first | (with_reducible first | exact HI216.out | apply qj.alloc | apply qj.drewN | apply qj.drew | apply qj.set_0 | apply qj.set_1) | exact HI216.out)) (by (with_reducible repeat (first | apply Kd.qo | apply Kd.qn | apply Kd.qm)); exact HO_8.out) (by decide)) hk (fun _ h => h.2)) (fun _ h => h.1)); replace HB := qb.mk (hb); replace HI216 := qb.mk (hi); (try clear hb); (try clear hb2); (try clear hk); (try clear hi)) | ((with_reducible refine qcb (N := 11) rfl ?_); refine qpb ?hg (N := 11) ?hd (cs := #[.int .i64 0, .int .i64 0, .int .i64 0, .string (⟨#[]⟩ : ByteArray)]) (t := 43) ?hr ?_; (case hd => rfl); (case hg => rfl); (case hr => first | (go_simp; done) | (go_simp; rfl)); intro gb226 hg w40 hbox hb; have BK226 := qb.mk (hbox); have GW226 := qb.mk ((by rw [hg]; exact (qG (by repeat (first | (with_reducible first | exact HB.out | apply qf | apply qg | apply qe | refine qk ?_ (qj.ge HI216.out)) | exact HB.out))) : w.heap.size ≤ gb226)); have GE226 := qb.mk ((by rw [hg]; exact (qG (by repeat (first | (with_reducible first | exact HB.out | apply qf | apply qg | apply qe | refine qk ?_ (qj.ge HI216.out)) | exact HB.out))) : w.heap.size ≤ gb226)); have NB216_226 := qb.mk ((by rw [hg]; exact Nat.ne_of_lt (qj.lt (show qj w _ gb216 t224 false from by repeat (first | (with_reducible first | exact HI216.out | apply qj.alloc | apply qj.drewN | apply qj.drew | apply qj.set_0 | apply qj.set_1) | exact HI216.out))) : gb216 ≠ gb226)); have NB226_216 := qb.mk ((by rw [hg]; exact Nat.ne_of_gt (qj.lt (show qj w _ gb216 t224 false from by repeat (first | (with_reducible first | exact HI216.out | apply qj.alloc | apply qj.drewN | apply qj.drew | apply qj.set_0 | apply qj.set_1) | exact HI216.out))) : gb226 ≠ gb216)); replace HO_8 := qb.mk (Kd.qX (Kd.qqc (by (with_reducible repeat (first | apply Kd.qo | apply Kd.qn | apply Kd.qm)); exact HO_8.out) gb226 (Nat.le_of_eq hg.symm)) hb); replace HB := qb.mk (qE (by repeat (first | (with_reducible first | exact HB.out | apply qf | apply qg | apply qe | refine qk ?_ (qj.ge HI216.out)) | exact HB.out)) hb); replace HI216 := qb.mk (qj.below (by repeat (first | (with_reducible first | exact HI216.out | apply qj.alloc | apply qj.drewN | apply qj.drew | apply qj.set_0 | apply qj.set_1) | exact HI216.out)) hb); clear hb hbox hg; have hnb41 := NB226_216.out; have hnc41 := NB216_226.out; have hcz42_0 : w40.cell? ⟨gb226, 0, none⟩ = some (.int .i64 0) := (ql BK226.out 0).trans rfl; have hcz42_1 : w40.cell? ⟨gb226, 1, none⟩ = some (.int .i64 0) := (ql BK226.out 1).trans rfl; have hcz42_2 : w40.cell? ⟨gb226, 2, none⟩ = some (.int .i64 0) := (ql BK226.out 2).trans rfl; have hcz42_3 : w40.cell? ⟨gb226, 3, none⟩ = some (.string (⟨#[]⟩ : ByteArray)) := (ql BK226.out 3).trans rfl; have hfz42_0 := qp BK226.out 0; have hfz42_1 := qp BK226.out 1; have hfz42_2 := qp BK226.out 2; have hfz42_3 := qp BK226.out 3; obtain ⟨HGz43, hgz43⟩ := HI216.out; have hcz43_0 := qUb HGz43; have hcz43_1 := qVb HGz43; have hfz43_0 := qp HGz43 0; have hfz43_1 := qp HGz43 1; clear HGz43 hgz43; have p21 : 0 ≤ (0 : Int) := (by omega); have q21 : 0 < t223.size := (by have : (0 : Int) < (t223.size : Int) := of_decide_eq_true (by first | (with_reducible assumption) | assumption); omega); have hx21 : ∀ h : 0 < t223.size, ((t223[0]'h).toNat : Int) = bt t223 0 := bt_at t223 0; clear p21; have qi21 : (0 < (t223.size : Int)) = True := eq_true (of_decide_eq_true (by first | (with_reducible assumption) | assumption)); replace q21 := eq_true q21) | ((with_reducible refine qy (f := 74) rfl ?_); refine qz (some 56) rfl rfl Try.func74 (by kernel_rfl) rfl #[.pointer (some ⟨gb216, 0, none⟩)] rfl (by (try simp only [List.map_toArray, List.map_cons, List.map_nil]); first | done | rfl | (simp only [List.length_drop, List.length_take]; rfl)) ?_; (with_reducible refine (qDb.calls gb216 t224 false t236 t237 t238 w _ ?side1 ?side2 A36.out).mono ?_); (case side1 => repeat (first | (with_reducible first | exact HI216.out | apply qj.alloc | apply qj.drewN | apply qj.drew | apply qj.set_0 | apply qj.set_1 | refine qj.far ?_ NB216_226.out _) | exact HI216.out)); (case side2 => repeat (first | (with_reducible first | exact HB.out | apply qf | apply qg | apply qe | refine qk ?_ (qj.ge HI216.out) | refine qk ?_ GE226.out) | exact HB.out)); rintro e w44 ⟨rfl, hi, hb, hk⟩; refine ⟨_, rfl, ?_⟩; replace HO_8 := qb.mk (Kd.qF (Kd.qeb (qj.apart (show qj w _ gb216 t224 false from by repeat (first | (with_reducible first | exact HI216.out | apply qj.alloc | apply qj.drewN | apply qj.drew | apply qj.set_0 | apply qj.set_1 | refine qj.far ?_ NB216_226.out _) | exact HI216.out)) (by (with_reducible repeat (first | apply Kd.qo | apply Kd.qn | apply Kd.qm)); exact (Kd.qF (Kd.R_far (p := ⟨gb226, 0, none⟩) (Kd.R_far (p := ⟨gb226, 3, none⟩) (Kd.R_far (p := ⟨gb226, 2, none⟩) (Kd.R_far (p := ⟨gb226, 1, none⟩) (Kd.R_far (p := ⟨gb226, 0, none⟩) (Kd.qF HO_8.out (fun k_ hk => (⟨hk, hk.2⟩ : _ ∧ k_ ≠ gb226))) (fun _ hk => hk.2) (.int .i64 0)) (fun _ hk => hk.2) (.int .i64 0)) (fun _ hk => hk.2) (.int .i64 0)) (fun _ hk => hk.2) (.string (⟨#[]⟩ : ByteArray))) (fun _ hk => hk.2) (.int .i64 (wrap64 (bt t223 0)))) (fun _ h_ => h_.1))) (by decide)) hk (fun _ h => h.2)) (fun _ h => h.1)); replace BK226 := qb.mk (qh.blk hk (g' := gb226) (o := .cells #[.int .i64 (wrap64 (bt t223 0)), .int .i64 0, .int .i64 0, .string (⟨#[]⟩ : ByteArray)] 43 (0, 0)) (by (with_reducible repeat (first | refine qB ?_ _ | refine qx ?_ | refine qC ?_ _)); refine qL (cs := #[.int .i64 0, .int .i64 0, .int .i64 0, .string (⟨#[]⟩ : ByteArray)]) ?_ 0 _ rfl; (with_reducible repeat (first | refine qB ?_ _ | refine qx ?_ | refine qC ?_ _)); refine qL (cs := #[.int .i64 0, .int .i64 0, .int .i64 0, .string (⟨#[]⟩ : ByteArray)]) ?_ 3 _ rfl; (with_reducible repeat (first | refine qB ?_ _ | refine qx ?_ | refine qC ?_ _)); refine qL (cs := #[.int .i64 0, .int .i64 0, .int .i64 0, .string (⟨#[]⟩ : ByteArray)]) ?_ 2 _ rfl; (with_reducible repeat (first | refine qB ?_ _ | refine qx ?_ | refine qC ?_ _)); refine qL (cs := #[.int .i64 0, .int .i64 0, .int .i64 0, .string (⟨#[]⟩ : ByteArray)]) ?_ 1 _ rfl; (with_reducible repeat (first | refine qB ?_ _ | refine qx ?_ | refine qC ?_ _)); refine qL (cs := #[.int .i64 0, .int .i64 0, .int .i64 0, .string (⟨#[]⟩ : ByteArray)]) ?_ 0 _ rfl; (with_reducible repeat (first | refine qB ?_ _ | refine qx ?_ | refine qC ?_ _)); exact BK226.out) NB226_216.out (by simp)); replace HB := qb.mk (hb); replace HI216 := qb.mk (hi); (try clear hb); (try clear hb2); (try clear hk); (try clear hi)) | ((with_reducible refine qy (f := 75) rfl ?_); refine qz (some 57) rfl rfl Try.func75 (by kernel_rfl) rfl #[.pointer (some ⟨gb216, 0, none⟩), .int .i64 t236] rfl (by (try simp only [List.map_toArray, List.map_cons, List.map_nil]); first | done | rfl | (simp only [List.length_drop, List.length_take]; rfl)) ?_; (with_reducible refine (qxb.calls gb216 t237 t238 t236 t239 t240 t241 w _ ?side1 ?side2 A37.out).mono ?_); (case side1 => repeat (first | (with_reducible first | exact HI216.out | apply qj.alloc | apply qj.drewN | apply qj.drew | apply qj.set_0 | apply qj.set_1 | refine qj.far ?_ NB216_226.out _) | exact HI216.out)); (case side2 => repeat (first | (with_reducible first | exact HB.out | apply qf | apply qg | apply qe | refine qk ?_ (qj.ge HI216.out) | refine qk ?_ GE226.out) | exact HB.out)); rintro e w45 ⟨rfl, hi, hb, hk⟩; refine ⟨_, rfl, ?_⟩; replace HO_8 := qb.mk (Kd.qF (Kd.qeb (qj.apart (show qj w _ gb216 t237 t238 from by repeat (first | (with_reducible first | exact HI216.out | apply qj.alloc | apply qj.drewN | apply qj.drew | apply qj.set_0 | apply qj.set_1 | refine qj.far ?_ NB216_226.out _) | exact HI216.out)) (by (with_reducible repeat (first | apply Kd.qo | apply Kd.qn | apply Kd.qm)); exact HO_8.out) (by decide)) hk (fun _ h => h.2)) (fun _ h => h.1)); replace BK226 := qb.mk (qh.blk hk (g' := gb226) (o := .cells #[.int .i64 (wrap64 (bt t223 0)), .int .i64 0, .int .i64 0, .string (⟨#[]⟩ : ByteArray)] 43 (0, 0)) (by (with_reducible repeat (first | refine qB ?_ _ | refine qx ?_ | refine qC ?_ _)); exact BK226.out) NB226_216.out (by simp)); replace HB := qb.mk (hb); replace HI216 := qb.mk (hi); (try clear hb); (try clear hb2); (try clear hk); (try clear hi); have hcz46_0 : w45.cell? ⟨gb226, 0, none⟩ = some (.int .i64 (wrap64 (bt t223 0))) := (ql BK226.out 0).trans rfl; have hcz46_1 : w45.cell? ⟨gb226, 1, none⟩ = some (.int .i64 0) := (ql BK226.out 1).trans rfl; have hcz46_2 : w45.cell? ⟨gb226, 2, none⟩ = some (.int .i64 0) := (ql BK226.out 2).trans rfl; have hcz46_3 : w45.cell? ⟨gb226, 3, none⟩ = some (.string (⟨#[]⟩ : ByteArray)) := (ql BK226.out 3).trans rfl; have hfz46_0 := qp BK226.out 0; have hfz46_1 := qp BK226.out 1; have hfz46_2 := qp BK226.out 2; have hfz46_3 := qp BK226.out 3) | ((with_reducible refine qhc (b := .append) (xs := #[.tmp 59, .tmp 61]) rfl ?_); at_builtin; refine Kd.qkc k43 (w0 := w) w.heap.size rfl (.tmp 59) (.tmp 61) 26 43 (.agg #[(.int .i64 0), (.int .i64 0), (.int .i64 0), (.string ⟨#[]⟩)]) 40 rfl Try.underlying26 info43 rfl (by decide) (by omega) u8 x8_1 (⟨wrap64 (bt t223 0), 0, 0, t239⟩ : S43) [.int .i64 (wrap64 (bt t223 0)), .int .i64 0, .int .i64 0, .string t239] (fun k_ => k_ ≠ gb226) (fun _ => False) rfl (by first | (go_simp; done) | (go_simp; rfl)) ?aP (fun _ hk => hk.elim) ?aF ?aO ?aB ?aS ?aL ?_; (case aP => exact qvb _ _ _ (⟨wrap64 (bt t223 0), 0, 0, t239⟩ : S43)); (case aB => exact (by repeat (first | (with_reducible first | exact HB.out | apply qf | apply qg | apply qe | refine qk ?_ (qj.ge HI216.out) | refine qk ?_ GE226.out) | exact HB.out))); (case aF => exact (fun k_ hk => Kd.freshB (g := gb226) (o := .cells #[.int .i64 (wrap64 (bt t223 0)), .int .i64 0, .int .i64 0, .string t239] 43 (0, 0)) (by (with_reducible repeat (first | refine qB ?_ _ | refine qx ?_ | refine qC ?_ _)); refine qL (cs := #[.int .i64 (wrap64 (bt t223 0)), .int .i64 0, .int .i64 0, .string (⟨#[]⟩ : ByteArray)]) ?_ 3 _ rfl; (with_reducible repeat (first | refine qB ?_ _ | refine qx ?_ | refine qC ?_ _)); exact BK226.out) k_ hk)); (case aO => exact (by (with_reducible repeat (first | apply Kd.qo | apply Kd.qn | apply Kd.qm)); exact Kd.qF (Kd.R_far (p := ⟨gb226, 3, none⟩) (Kd.qF HO_8.out (fun k_ hk => (⟨hk, hk.2⟩ : _ ∧ k_ ≠ gb226))) (fun _ hk => hk.2) (.string t239)) (fun _ hk => hk.1.2))); (case aS => exact (qG (by repeat (first | (with_reducible first | exact HB.out | apply qf | apply qg | apply qe | refine qk ?_ (qj.ge HI216.out) | refine qk ?_ GE226.out) | exact HB.out)))); (case aL => have := LMc38.out; omega); intro v243 w47 ho hb hg hat; rw [← Ny242.out] at ho; have HO244 := qb.mk (ho); replace HI216 := qb.mk (qj.grown (show qj w _ gb216 t240 t241 from by repeat (first | (with_reducible first | exact HI216.out | apply qj.alloc | apply qj.drewN | apply qj.drew | apply qj.set_0 | apply qj.set_1 | refine qj.far ?_ NB216_226.out _) | exact HI216.out)) hg (qj.own_ne HI216.out HO_8.out (by decide))); replace BK226 := qb.mk (qJb (g := gb226) (o := .cells #[.int .i64 (wrap64 (bt t223 0)), .int .i64 0, .int .i64 0, .string t239] 43 (0, 0)) (by (with_reducible repeat (first | refine qB ?_ _ | refine qx ?_ | refine qC ?_ _)); refine qL (cs := #[.int .i64 (wrap64 (bt t223 0)), .int .i64 0, .int .i64 0, .string (⟨#[]⟩ : ByteArray)]) ?_ 3 _ rfl; (with_reducible repeat (first | refine qB ?_ _ | refine qx ?_ | refine qC ?_ _)); exact BK226.out) hg (Kd.qfc HO_8.out (fun _ hk => hk.2))); replace HB := qb.mk (hb); clear HO_8; clear ho hb hg hat))
            go_roundg kj8
            case measure => have := HK1.out; have := HJ8.out; omega
            case rel => exact ⟨(y242), (wrap64 (x10_1 + 1)), (t240), (t241), (by first | rfl | (simp; done) | (simp [*]; done)), H', ⟨by have := HK1.out; have := HJ8.out; omega⟩, ⟨by (with_reducible repeat (first | apply Kd.qo | apply Kd.qn | apply Kd.qm)); exact Kd.qF HO244.out (fun _ hk => trivial)⟩, ⟨by repeat (first | (with_reducible first | exact HI216.out | apply qj.alloc | apply qj.drewN | apply qj.drew | apply qj.set_0 | apply qj.set_1 | refine qj.far ?_ NB216_226.out _) | exact HI216.out)⟩, ⟨by repeat (first | (with_reducible first | exact HB.out | apply qf | apply qg | apply qe | refine qk ?_ (qj.ge HI216.out) | refine qk ?_ GE226.out) | exact HB.out)⟩⟩
           ·rw [if_neg c38] at H
            exact absurd H (by simp)
          ·rw [if_neg c35] at H
           have c35b0 : ((wrap64 (bt t223 0)) == 2) = false := beq_eq_false_iff_ne.mpr c35
           have c35b1 : ((wrap64 (bt t223 0)) != 2) = true := bne_iff_ne.mpr c35
           simp only [Option.some.injEq, Prod.mk.injEq] at H
           obtain ⟨rfl, rfl, rfl⟩ := H
           go_wp2_with (first | ((with_reducible refine qy (f := 75) rfl ?_); refine qz (some 33) rfl rfl Try.func75 (by kernel_rfl) rfl #[.pointer (some ⟨gb216, 0, none⟩), .int .i64 1] rfl (by (try simp only [List.map_toArray, List.map_cons, List.map_nil]); first | done | rfl | (simp only [List.length_drop, List.length_take]; rfl)) ?_; (with_reducible refine (qxb.calls gb216 x217000_1 x217001_1 1 t223 t224 false w _ ?side1 ?side2 A13.out).mono ?_); (case side1 => repeat (first | (with_reducible first | exact HI216.out | apply qj.alloc | apply qj.drewN | apply qj.drew | apply qj.set_0 | apply qj.set_1) | exact HI216.out)); (case side2 => repeat (first | (with_reducible first | exact HB.out | apply qf | apply qg | apply qe | refine qk ?_ (qj.ge HI216.out)) | exact HB.out)); rintro e w48 ⟨rfl, hi, hb, hk⟩; refine ⟨_, rfl, ?_⟩; replace HO_8 := qb.mk (Kd.qF (Kd.qeb (qj.apart (show qj w _ gb216 x217000_1 x217001_1 from by repeat (first | (with_reducible first | exact HI216.out | apply qj.alloc | apply qj.drewN | apply qj.drew | apply qj.set_0 | apply qj.set_1) | exact HI216.out)) (by (with_reducible repeat (first | apply Kd.qo | apply Kd.qn | apply Kd.qm)); exact HO_8.out) (by decide)) hk (fun _ h => h.2)) (fun _ h => h.1)); replace HB := qb.mk (hb); replace HI216 := qb.mk (hi); (try clear hb); (try clear hb2); (try clear hk); (try clear hi)) | ((with_reducible refine qcb (N := 11) rfl ?_); refine qpb ?hg (N := 11) ?hd (cs := #[.int .i64 0, .int .i64 0, .int .i64 0, .string (⟨#[]⟩ : ByteArray)]) (t := 43) ?hr ?_; (case hd => rfl); (case hg => rfl); (case hr => first | (go_simp; done) | (go_simp; rfl)); intro gb226 hg w49 hbox hb; have BK226 := qb.mk (hbox); have GW226 := qb.mk ((by rw [hg]; exact (qG (by repeat (first | (with_reducible first | exact HB.out | apply qf | apply qg | apply qe | refine qk ?_ (qj.ge HI216.out)) | exact HB.out))) : w.heap.size ≤ gb226)); have GE226 := qb.mk ((by rw [hg]; exact (qG (by repeat (first | (with_reducible first | exact HB.out | apply qf | apply qg | apply qe | refine qk ?_ (qj.ge HI216.out)) | exact HB.out))) : w.heap.size ≤ gb226)); have NB216_226 := qb.mk ((by rw [hg]; exact Nat.ne_of_lt (qj.lt (show qj w _ gb216 t224 false from by repeat (first | (with_reducible first | exact HI216.out | apply qj.alloc | apply qj.drewN | apply qj.drew | apply qj.set_0 | apply qj.set_1) | exact HI216.out))) : gb216 ≠ gb226)); have NB226_216 := qb.mk ((by rw [hg]; exact Nat.ne_of_gt (qj.lt (show qj w _ gb216 t224 false from by repeat (first | (with_reducible first | exact HI216.out | apply qj.alloc | apply qj.drewN | apply qj.drew | apply qj.set_0 | apply qj.set_1) | exact HI216.out))) : gb226 ≠ gb216)); replace HO_8 := qb.mk (Kd.qX (Kd.qqc (by (with_reducible repeat (first | apply Kd.qo | apply Kd.qn | apply Kd.qm)); exact HO_8.out) gb226 (Nat.le_of_eq hg.symm)) hb); replace HB := qb.mk (qE (by repeat (first | (with_reducible first | exact HB.out | apply qf | apply qg | apply qe | refine qk ?_ (qj.ge HI216.out)) | exact HB.out)) hb); replace HI216 := qb.mk (qj.below (by repeat (first | (with_reducible first | exact HI216.out | apply qj.alloc | apply qj.drewN | apply qj.drew | apply qj.set_0 | apply qj.set_1) | exact HI216.out)) hb); clear hb hbox hg; have hnb50 := NB226_216.out; have hnc50 := NB216_226.out; have hcz51_0 : w49.cell? ⟨gb226, 0, none⟩ = some (.int .i64 0) := (ql BK226.out 0).trans rfl; have hcz51_1 : w49.cell? ⟨gb226, 1, none⟩ = some (.int .i64 0) := (ql BK226.out 1).trans rfl; have hcz51_2 : w49.cell? ⟨gb226, 2, none⟩ = some (.int .i64 0) := (ql BK226.out 2).trans rfl; have hcz51_3 : w49.cell? ⟨gb226, 3, none⟩ = some (.string (⟨#[]⟩ : ByteArray)) := (ql BK226.out 3).trans rfl; have hfz51_0 := qp BK226.out 0; have hfz51_1 := qp BK226.out 1; have hfz51_2 := qp BK226.out 2; have hfz51_3 := qp BK226.out 3; obtain ⟨HGz52, hgz52⟩ := HI216.out; have hcz52_0 := qUb HGz52; have hcz52_1 := qVb HGz52; have hfz52_0 := qp HGz52 0; have hfz52_1 := qp HGz52 1; clear HGz52 hgz52; have p21 : 0 ≤ (0 : Int) := (by omega); have q21 : 0 < t223.size := (by have : (0 : Int) < (t223.size : Int) := of_decide_eq_true (by first | (with_reducible assumption) | assumption); omega); have hx21 : ∀ h : 0 < t223.size, ((t223[0]'h).toNat : Int) = bt t223 0 := bt_at t223 0; clear p21; have qi21 : (0 < (t223.size : Int)) = True := eq_true (of_decide_eq_true (by first | (with_reducible assumption) | assumption)); replace q21 := eq_true q21))
           go_ret3
           exact ⟨_, by first | rfl | (simp [qv, qu] <;> rfl) | (simp [*, qv, qu] <;> rfl), by first | exact Kd.R_nil _ _ _ _ _ | exact Kd.N_nil _ _ _ _ _ | exact Kd.V_nil _ _ _ _ _ | exact Kd.Q_nil _ _ _ _ _ | exact Kd.S_nil _ _ _ _ _, by repeat (first | (with_reducible first | exact HB.out | apply qf | apply qg | apply qe | refine qk ?_ (qj.ge HI216.out) | refine qk ?_ GE226.out) | exact HB.out)⟩
        ·rw [if_neg c20] at H
         exact absurd H (by simp)
      ·replace c12 := Bool.eq_false_iff.mpr c12
       subst c12
       rw [if_neg (show ¬ (false = true) by decide)] at H
       have H' := qb.mk H
       clear H
       go_wp2
       go_meet
       case rel => exact ⟨_, (x8_1), (x217000_1), (x217001_1), H', ⟨by have := HK1.out; have := HJ8.out; first | omega | exact Nat.le_refl _⟩, ⟨by (with_reducible repeat (first | apply Kd.qo | apply Kd.qn | apply Kd.qm)); exact HO_8.out⟩, ⟨by repeat (first | (with_reducible first | exact HI216.out | apply qj.alloc | apply qj.drewN | apply qj.drew | apply qj.set_0 | apply qj.set_1) | exact HI216.out)⟩, ⟨by repeat (first | (with_reducible first | exact HB.out | apply qf | apply qg | apply qe | refine qk ?_ (qj.ge HI216.out)) | exact HB.out)⟩⟩
 case rest =>
  clear HC4
  try clear c1
  try clear c2
  try clear p2
  try clear q2
  try clear hx2
  try clear qi2
  try clear c3
  try clear c4
  try clear c5
  try clear p6
  try clear c7
  try clear c10
  try clear c10b0
  try clear c12
  try clear c14
  try clear c17
  try clear c20
  try clear c20b0
  try clear c20b1
  try clear p21
  try clear q21
  try clear hx21
  try clear qi21
  try clear c22
  try clear c22b0
  try clear c22b1
  try clear c25
  try clear c28
  try clear c35
  try clear c35b0
  try clear c35b1
  try clear c36
  try clear c38
  try clear c41
  try clear c50
  try clear hcz11_0
  try clear hcz11_1
  try clear hcz18_0
  try clear hcz18_1
  try clear hcz18_2
  try clear hcz18_3
  try clear hcz19_0
  try clear hcz19_1
  try clear hcz29_0
  try clear hcz29_1
  try clear hcz29_2
  try clear hcz29_3
  try clear hcz30_0
  try clear hcz30_1
  try clear hcz33_0
  try clear hcz33_1
  try clear hcz33_2
  try clear hcz33_3
  try clear hcz42_0
  try clear hcz42_1
  try clear hcz42_2
  try clear hcz42_3
  try clear hcz43_0
  try clear hcz43_1
  try clear hcz46_0
  try clear hcz46_1
  try clear hcz46_2
  try clear hcz46_3
  try clear hcz51_0
  try clear hcz51_1
  try clear hcz51_2
  try clear hcz51_3
  try clear hcz52_0
  try clear hcz52_1
  try clear hfz11_0
  try clear hfz11_1
  try clear hfz18_0
  try clear hfz18_1
  try clear hfz18_2
  try clear hfz18_3
  try clear hfz19_0
  try clear hfz19_1
  try clear hfz29_0
  try clear hfz29_1
  try clear hfz29_2
  try clear hfz29_3
  try clear hfz30_0
  try clear hfz30_1
  try clear hfz33_0
  try clear hfz33_1
  try clear hfz33_2
  try clear hfz33_3
  try clear hfz42_0
  try clear hfz42_1
  try clear hfz42_2
  try clear hfz42_3
  try clear hfz43_0
  try clear hfz43_1
  try clear hfz46_0
  try clear hfz46_1
  try clear hfz46_2
  try clear hfz46_3
  try clear hfz51_0
  try clear hfz51_1
  try clear hfz51_2
  try clear hfz51_3
  try clear hfz52_0
  try clear hfz52_1
  try clear p2
  try clear p21
  try clear q21
  obtain ⟨kq, x8_3, x217000_3, x217001_3, HA, HJ3, HO_8, HI216, HB⟩ := hcut
  cases kq with
  | zero => exact absurd HA.out (by simp [qI.j2])
  | succ kj3 =>
   have H := HA.out
   clear HA
   simp only [qI.j2] at H
   have HC53 := qb.mk H
   clear H
   go_upto_region 16 with (fail)
   go_cut [63] (fun v63 wc => ∃ (kq : Nat) (x63_52 : Bool), v63 = .bool x63_52 ∧ qb (qI.j3 kq a0 x8_3 x63_52 = some (r1, r2, r3)) ∧ qb (kq ≤ kj3) ∧ qb (Kd.R k43 43 wc w.heap.size (fun _ => True) u8 x8_3) ∧ qb (Below w.heap.size w wc))
   case first =>
    have H := HC53.out
    clear HC53
    by_cases c54 : x217001_3 = true
    ·subst c54
     rw [if_pos rfl] at H
     have H' := qb.mk H
     clear H
     obtain ⟨HGz55, hgz55⟩ := HI216.out
     have hcz55_0 := qUb HGz55
     have hcz55_1 := qVb HGz55
     have hfz55_0 := qp HGz55 0
     have hfz55_1 := qp HGz55 1
     clear HGz55 hgz55
     go_wp2
     go_meet
     case rel => exact ⟨_, (true), (by first | rfl | (simp; done) | (simp [*]; done)), H', ⟨by have := HJ3.out; first | omega | exact Nat.le_refl _⟩, ⟨by (with_reducible repeat (first | apply Kd.qo | apply Kd.qn | apply Kd.qm)); exact HO_8.out⟩, ⟨by repeat (first | (with_reducible first | exact HB.out | apply qf | apply qg | apply qe | refine qk ?_ (qj.ge HI216.out)) | exact HB.out)⟩⟩
    ·replace c54 := Bool.eq_false_iff.mpr c54
     subst c54
     rw [if_neg (show ¬ (false = true) by decide)] at H
     have H' := qb.mk H
     clear H
     obtain ⟨HGz56, hgz56⟩ := HI216.out
     have hcz56_0 := qUb HGz56
     have hcz56_1 := qVb HGz56
     have hfz56_0 := qp HGz56 0
     have hfz56_1 := qp HGz56 1
     clear HGz56 hgz56
     go_wp2
     go_meet
     case rel => exact ⟨_, ((x217000_3.toList != ([] : List UInt8))), (by first | rfl | (simp; done) | (simp [*]; done) | (simp [Extra.bne_nil]; done)), H', ⟨by have := HJ3.out; first | omega | exact Nat.le_refl _⟩, ⟨by (with_reducible repeat (first | apply Kd.qo | apply Kd.qn | apply Kd.qm)); exact HO_8.out⟩, ⟨by repeat (first | (with_reducible first | exact HB.out | apply qf | apply qg | apply qe | refine qk ?_ (qj.ge HI216.out)) | exact HB.out)⟩⟩
   case rest =>
    clear HC53
    try clear c1
    try clear c2
    try clear p2
    try clear q2
    try clear hx2
    try clear qi2
    try clear c3
    try clear c4
    try clear c5
    try clear p6
    try clear c7
    try clear c10
    try clear c10b0
    try clear c12
    try clear c14
    try clear c17
    try clear c20
    try clear c20b0
    try clear c20b1
    try clear p21
    try clear q21
    try clear hx21
    try clear qi21
    try clear c22
    try clear c22b0
    try clear c22b1
    try clear c25
    try clear c28
    try clear c35
    try clear c35b0
    try clear c35b1
    try clear c36
    try clear c38
    try clear c41
    try clear c50
    try clear c54
    try clear hcz11_0
    try clear hcz11_1
    try clear hcz18_0
    try clear hcz18_1
    try clear hcz18_2
    try clear hcz18_3
    try clear hcz19_0
    try clear hcz19_1
    try clear hcz29_0
    try clear hcz29_1
    try clear hcz29_2
    try clear hcz29_3
    try clear hcz30_0
    try clear hcz30_1
    try clear hcz33_0
    try clear hcz33_1
    try clear hcz33_2
    try clear hcz33_3
    try clear hcz42_0
    try clear hcz42_1
    try clear hcz42_2
    try clear hcz42_3
    try clear hcz43_0
    try clear hcz43_1
    try clear hcz46_0
    try clear hcz46_1
    try clear hcz46_2
    try clear hcz46_3
    try clear hcz51_0
    try clear hcz51_1
    try clear hcz51_2
    try clear hcz51_3
    try clear hcz52_0
    try clear hcz52_1
    try clear hcz55_0
    try clear hcz55_1
    try clear hcz56_0
    try clear hcz56_1
    try clear hfz11_0
    try clear hfz11_1
    try clear hfz18_0
    try clear hfz18_1
    try clear hfz18_2
    try clear hfz18_3
    try clear hfz19_0
    try clear hfz19_1
    try clear hfz29_0
    try clear hfz29_1
    try clear hfz29_2
    try clear hfz29_3
    try clear hfz30_0
    try clear hfz30_1
    try clear hfz33_0
    try clear hfz33_1
    try clear hfz33_2
    try clear hfz33_3
    try clear hfz42_0
    try clear hfz42_1
    try clear hfz42_2
    try clear hfz42_3
    try clear hfz43_0
    try clear hfz43_1
    try clear hfz46_0
    try clear hfz46_1
    try clear hfz46_2
    try clear hfz46_3
    try clear hfz51_0
    try clear hfz51_1
    try clear hfz51_2
    try clear hfz51_3
    try clear hfz52_0
    try clear hfz52_1
    try clear hfz55_0
    try clear hfz55_1
    try clear hfz56_0
    try clear hfz56_1
    try clear p2
    try clear p21
    try clear p6
    try clear q2
    try clear q21
    obtain ⟨kq, x63_52, rfl, HA, HJ52, HO_8, HB⟩ := hcut
    cases kq with
    | zero => exact absurd HA.out (by simp [qI.j3])
    | succ kj52 =>
     have H := HA.out
     clear HA
     simp only [qI.j3] at H
     by_cases c57 : x63_52 = true
     ·subst c57
      rw [if_pos rfl] at H
      simp only [Option.some.injEq, Prod.mk.injEq] at H
      obtain ⟨rfl, rfl, rfl⟩ := H
      go_wp2
      go_ret3
      exact ⟨_, by first | rfl | (simp [qv, qu] <;> rfl) | (simp [*, qv, qu] <;> rfl), by first | exact Kd.R_nil _ _ _ _ _ | exact Kd.N_nil _ _ _ _ _ | exact Kd.V_nil _ _ _ _ _ | exact Kd.Q_nil _ _ _ _ _ | exact Kd.S_nil _ _ _ _ _, by repeat (first | (with_reducible first | exact HB.out | apply qf | apply qg | apply qe) | exact HB.out)⟩
     ·replace c57 := Bool.eq_false_iff.mpr c57
      subst c57
      rw [if_neg (show ¬ (false = true) by decide)] at H
      replace H := Option.bind_eq_some_iff.mp H
      obtain ⟨t245, A580, H⟩ := H
      try dsimp only at H
      have A58 := qb.mk A580
      clear A580
      by_cases c59 : t245 = true
      ·subst c59
       rw [if_pos rfl] at H
       simp only [Option.some.injEq, Prod.mk.injEq] at H
       obtain ⟨rfl, rfl, rfl⟩ := H
       obtain ⟨Ao60, co60, eo60⟩ := Kd.qfb HO_8.out
       subst eo60
       go_wp2_with (first | ((with_reducible refine qy (f := 21) rfl ?_); refine qz (some 78) rfl rfl Try.func21 (by kernel_rfl) rfl #[.string a0, .slice Ao60 x8_3.length co60] rfl (by (try simp only [List.map_toArray, List.map_cons, List.map_nil]); first | done | rfl | (simp only [List.length_drop, List.length_take]; rfl)) ?_; (with_reducible refine (qlb.calls kj52 a0 _ _ x8_3 true _ ?side1 ?side2 A58.out).mono ?_); (case side1 => repeat (first | exact (Kd.qD HO_8.out).2.2 | (with_reducible refine Kd.qN ?_ _) | (with_reducible refine Kd.qM ?_ _) | (with_reducible refine Kd.qO ?_))); (case side2 => exact (Kd.qD HO_8.out).2.1); rintro e w61 ⟨rfl, hb⟩; refine ⟨_, rfl, ?_⟩; replace HO_8 := qb.mk (Kd.qX (by (with_reducible repeat (first | apply Kd.qo | apply Kd.qn | apply Kd.qm)); exact HO_8.out) hb); replace HB := qb.mk (qE (by repeat (first | (with_reducible first | exact HB.out | apply qf | apply qg | apply qe) | exact HB.out)) hb); (try clear hb); (try clear hb2); (try clear hk); (try clear hi)))
       go_ret3
       exact ⟨_, by first | rfl | (simp [qv, qu] <;> rfl) | (simp [*, qv, qu] <;> rfl), by (with_reducible repeat (first | apply Kd.qo | apply Kd.qn | apply Kd.qm)); exact HO_8.out, by repeat (first | (with_reducible first | exact HB.out | apply qf | apply qg | apply qe) | exact HB.out)⟩
      ·replace c59 := Bool.eq_false_iff.mpr c59
       subst c59
       rw [if_neg (show ¬ (false = true) by decide)] at H
       simp only [Option.some.injEq, Prod.mk.injEq] at H
       obtain ⟨rfl, rfl, rfl⟩ := H
       obtain ⟨Ao62, co62, eo62⟩ := Kd.qfb HO_8.out
       subst eo62
       go_wp2_with (first | ((with_reducible refine qy (f := 21) rfl ?_); refine qz (some 78) rfl rfl Try.func21 (by kernel_rfl) rfl #[.string a0, .slice Ao62 x8_3.length co62] rfl (by (try simp only [List.map_toArray, List.map_cons, List.map_nil]); first | done | rfl | (simp only [List.length_drop, List.length_take]; rfl)) ?_; (with_reducible refine (qlb.calls kj52 a0 _ _ x8_3 false _ ?side1 ?side2 A58.out).mono ?_); (case side1 => repeat (first | exact (Kd.qD HO_8.out).2.2 | (with_reducible refine Kd.qN ?_ _) | (with_reducible refine Kd.qM ?_ _) | (with_reducible refine Kd.qO ?_))); (case side2 => exact (Kd.qD HO_8.out).2.1); rintro e w63 ⟨rfl, hb⟩; refine ⟨_, rfl, ?_⟩; replace HO_8 := qb.mk (Kd.qX (by (with_reducible repeat (first | apply Kd.qo | apply Kd.qn | apply Kd.qm)); exact HO_8.out) hb); replace HB := qb.mk (qE (by repeat (first | (with_reducible first | exact HB.out | apply qf | apply qg | apply qe) | exact HB.out)) hb); (try clear hb); (try clear hb2); (try clear hk); (try clear hi)))
       go_ret3
       exact ⟨_, by first | rfl | (simp [qv, qu] <;> rfl) | (simp [*, qv, qu] <;> rfl), by first | exact Kd.R_nil _ _ _ _ _ | exact Kd.N_nil _ _ _ _ _ | exact Kd.V_nil _ _ _ _ _ | exact Kd.Q_nil _ _ _ _ _ | exact Kd.S_nil _ _ _ _ _, by repeat (first | (with_reducible first | exact HB.out | apply qf | apply qg | apply qe) | exact HB.out)⟩

end Go.Proofs.Ytnhnlfkbngnkpaa.E
