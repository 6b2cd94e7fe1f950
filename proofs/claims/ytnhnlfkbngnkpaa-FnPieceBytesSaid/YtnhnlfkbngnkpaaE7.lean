-- Made by a program of this session out of the translation; no hand has turned it.
import Derived.Test.YtnhnlfkbngnkpaaE0
import Derived.Test.YtnhnlfkbngnkpaaE3
namespace Go.Proofs.Ytnhnlfkbngnkpaa.E
open Go.RowKit Go.Proofs.YtnhnlfkbngnkpaaW.PrintWords Go.Proofs.YtnhnlfkbngnkpaaW.PrintLast Go.Proofs.YtnhnlfkbngnkpaaW.PrintMore
attribute [local go_sem] qXb qbc qac qec qZb qdc qYb qcc   -- for this text's walks alone
set_option linter.unusedVariables false
set_option linter.unusedSimpArgs false

/-- A state of type 85 at block g of W; what its slices lead to came in by w0. -/
def qi (w0 W : World) (g : Nat) (f0 : ByteArray) (f1 : Int) (f2 : Bool) : Prop := W.heap[g]? = some (.cells #[.string f0, .int .i64 f1, .bool f2] 85 (0, 0)) ∧ w0.heap.size ≤ g
theorem qi.grown {w0 W : World} {g : Nat} {f0 : ByteArray} {f1 : Int} {f2 : Bool} {W1 : World} {row : Option Nat} (h : qi w0 W g f0 f1 f2) (hw : W.grownBy W1 row) (hne : some g ≠ row) : qi w0 W1 g f0 f1 f2 := by
 obtain ⟨hb, hg⟩ := h
 exact ⟨qJb hb hw hne, hg⟩
theorem qi.own_neN {w0 W : World} {g : Nat} {f0 : ByteArray} {f1 : Int} {f2 : Bool} {α : Type} {d : Kd α} {e : Nat} {base : Nat} {ok : Nat → Prop} {v : Value} {xs : List α} (h : qi w0 W g f0 f1 f2) (ho : Kd.N d e W base ok v xs) (ht : e ≠ 85) : some g ≠ v.ownBlock := by
 obtain ⟨hb, hg⟩ := h
 exact Kd.N_ne ho hb ht
theorem qi.fresh {w0 W : World} {g : Nat} {f0 : ByteArray} {f1 : Int} {f2 : Bool} (h : qi w0 W g f0 f1 f2) : ∀ k, W.heap.size ≤ k → k ≠ g := by
 obtain ⟨hb, hg⟩ := h
 exact Kd.freshB hb
theorem qi.kept {w0 W : World} {g : Nat} {f0 : ByteArray} {f1 : Int} {f2 : Bool} {W1 : World} {S : Nat → Prop} (h : qi w0 W g f0 f1 f2) (hk : Kept W W1 S) (hne : ¬ S g) : qi w0 W1 g f0 f1 f2 := by
 obtain ⟨hb, hg⟩ := h
 exact ⟨blk_kept hb hk hne, hg⟩
theorem qi.below {w0 W : World} {g : Nat} {f0 : ByteArray} {f1 : Int} {f2 : Bool} {W1 : World} (h : qi w0 W g f0 f1 f2) (hw : Below W.heap.size W W1) : qi w0 W1 g f0 f1 f2 := h.grown (grown_of_below hw none) (by simp)
theorem qi.alloc {w0 W : World} {g : Nat} {f0 : ByteArray} {f1 : Int} {f2 : Bool} (h : qi w0 W g f0 f1 f2) (o : Obj) : qi w0 (W.alloc o) g f0 f1 f2 := h.below (qf (Below.refl _ _) o)
theorem qi.drewN {w0 W : World} {g : Nat} {f0 : ByteArray} {f1 : Int} {f2 : Bool} (h : qi w0 W g f0 f1 f2) (m : Nat) : qi w0 (W.drewN m) g f0 f1 f2 := h
theorem qi.drew {w0 W : World} {g : Nat} {f0 : ByteArray} {f1 : Int} {f2 : Bool} (h : qi w0 W g f0 f1 f2) : qi w0 W.drew g f0 f1 f2 := h
theorem qi.at_ {w0 W : World} {g : Nat} {f0 : ByteArray} {f1 : Int} {f2 : Bool} {w' : World} {m : Nat} (hq : W.drewN m = w') (h : qi w0 W g f0 f1 f2) : qi w0 w' g f0 f1 f2 := by subst hq; exact qi.drewN h m
theorem qi.apart {w0 W : World} {g : Nat} {f0 : ByteArray} {f1 : Int} {f2 : Bool} {α : Type} {d : Kd α} {e : Nat} {base : Nat} {ok : Nat → Prop} {v : Value} {xs : List α} (h : qi w0 W g f0 f1 f2) (ho : d.R e W base ok v xs) (ht : ∀ q, q ∈ e :: d.E → q ≠ 85) : d.R e W base (fun k => ok k ∧ k ≠ g) v xs := by
 obtain ⟨hb, hg⟩ := h
 exact Kd.R_types ho hb ht
theorem qi.own_ne {w0 W : World} {g : Nat} {f0 : ByteArray} {f1 : Int} {f2 : Bool} {α : Type} {d : Kd α} {e : Nat} {base : Nat} {ok : Nat → Prop} {v : Value} {xs : List α} (h : qi w0 W g f0 f1 f2) (ho : d.R e W base ok v xs) (ht : e ≠ 85) : some g ≠ v.ownBlock := by
 obtain ⟨hb, hg⟩ := h
 exact Kd.R_ne ho hb ht
theorem qi.apartQ {w0 W : World} {g : Nat} {f0 : ByteArray} {f1 : Int} {f2 : Bool} {α : Type} {d : Kd α} {e : Nat} {base : Nat} {ok : Nat → Prop} {v : Value} {xs : List α} (h : qi w0 W g f0 f1 f2) (ho : d.Q e W base ok v xs) (ht : ∀ q, q ∈ e :: d.E → q ≠ 85) : d.Q e W base (fun k => ok k ∧ k ≠ g) v xs := by
 obtain ⟨hb, hg⟩ := h
 exact Kd.Q_types ho hb ht
theorem qi.own_neQ {w0 W : World} {g : Nat} {f0 : ByteArray} {f1 : Int} {f2 : Bool} {α : Type} {d : Kd α} {e : Nat} {base : Nat} {ok : Nat → Prop} {v : Value} {xs : List α} (h : qi w0 W g f0 f1 f2) (ho : d.Q e W base ok v xs) (ht : e ≠ 85) : some g ≠ v.ownBlock := by
 obtain ⟨hb, hg⟩ := h
 exact Kd.Q_ne ho hb ht
theorem qi.apartS {w0 W : World} {g : Nat} {f0 : ByteArray} {f1 : Int} {f2 : Bool} {α : Type} {d : Kd α} {e : Nat} {base : Nat} {ok : Nat → Prop} {v : Value} {xs : List α} (h : qi w0 W g f0 f1 f2) (ho : d.S e W base ok v xs) (ht : ∀ q, q ∈ e :: d.E → q ≠ 85) : d.S e W base (fun k => ok k ∧ k ≠ g) v xs := by
 obtain ⟨hb, hg⟩ := h
 exact Kd.S_types ho hb ht
theorem qi.own_neS {w0 W : World} {g : Nat} {f0 : ByteArray} {f1 : Int} {f2 : Bool} {α : Type} {d : Kd α} {e : Nat} {base : Nat} {ok : Nat → Prop} {v : Value} {xs : List α} (h : qi w0 W g f0 f1 f2) (ho : d.S e W base ok v xs) (ht : e ≠ 85) : some g ≠ v.ownBlock := by
 obtain ⟨hb, hg⟩ := h
 exact Kd.S_ne ho hb ht
theorem qi.lt {w0 W : World} {g : Nat} {f0 : ByteArray} {f1 : Int} {f2 : Bool} (h : qi w0 W g f0 f1 f2) : g < W.heap.size := by
 obtain ⟨hb, hg⟩ := h
 exact blk_lt hb
theorem qi.ge {w0 W : World} {g : Nat} {f0 : ByteArray} {f1 : Int} {f2 : Bool} (h : qi w0 W g f0 f1 f2) : w0.heap.size ≤ g := by
 obtain ⟨hb, hg⟩ := h
 exact hg
theorem qi.ne_blk {w0 W : World} {g : Nat} {f0 : ByteArray} {f1 : Int} {f2 : Bool} {a : Nat} {cs : Array Value} {t : TypeId} {fr : Nat × Nat} (h : qi w0 W g f0 f1 f2) (hb2 : W.heap[a]? = some (.cells cs t fr)) (ht : t ≠ 85) : g ≠ a := by
 obtain ⟨hb, hg⟩ := h
 rintro rfl
 rw [hb] at hb2
 injection hb2 with hb2
 injection hb2 with _ ht2
 exact ht ht2.symm
theorem qi.far {w0 W : World} {g : Nat} {f0 : ByteArray} {f1 : Int} {f2 : Bool} {p : Addr} (h : qi w0 W g f0 f1 f2) (hne : g ≠ p.block) (u : Value) : qi w0 (W.setCell p u) g f0 f1 f2 := by
 obtain ⟨hb, hg⟩ := h
 exact ⟨blk_far hb hne u, hg⟩
theorem qsc {W : World} {g : Nat} {f0 : ByteArray} {f1 : Int} {f2 : Bool} (h : W.heap[g]? = some (.cells #[.string f0, .int .i64 f1, .bool f2] 85 (0, 0))) : W.cell? ⟨g, 0, none⟩ = some (.string f0) := (ql h 0).trans rfl
theorem qi.set_0 {w0 W : World} {g : Nat} {f0 : ByteArray} {f1 : Int} {f2 : Bool} (h : qi w0 W g f0 f1 f2) (x : ByteArray) : qi w0 (W.setCell ⟨g, 0, none⟩ (.string x)) g x f1 f2 := by
 obtain ⟨hb, hg⟩ := h
 exact ⟨by simpa using blk_set hb 0 (.string x), hg⟩
theorem qtc {W : World} {g : Nat} {f0 : ByteArray} {f1 : Int} {f2 : Bool} (h : W.heap[g]? = some (.cells #[.string f0, .int .i64 f1, .bool f2] 85 (0, 0))) : W.cell? ⟨g, 1, none⟩ = some (.int .i64 f1) := (ql h 1).trans rfl
theorem qi.set_1 {w0 W : World} {g : Nat} {f0 : ByteArray} {f1 : Int} {f2 : Bool} (h : qi w0 W g f0 f1 f2) (x : Int) : qi w0 (W.setCell ⟨g, 1, none⟩ (.int .i64 x)) g f0 x f2 := by
 obtain ⟨hb, hg⟩ := h
 exact ⟨by simpa using blk_set hb 1 (.int .i64 x), hg⟩
theorem quc {W : World} {g : Nat} {f0 : ByteArray} {f1 : Int} {f2 : Bool} (h : W.heap[g]? = some (.cells #[.string f0, .int .i64 f1, .bool f2] 85 (0, 0))) : W.cell? ⟨g, 2, none⟩ = some (.bool f2) := (ql h 2).trans rfl
theorem qi.set_2 {w0 W : World} {g : Nat} {f0 : ByteArray} {f1 : Int} {f2 : Bool} (h : qi w0 W g f0 f1 f2) (x : Bool) : qi w0 (W.setCell ⟨g, 2, none⟩ (.bool x)) g f0 f1 x := by
 obtain ⟨hb, hg⟩ := h
 exact ⟨by simpa using blk_set hb 2 (.bool x), hg⟩
theorem qi.new (w0 W : World) (f0 : ByteArray) (f1 : Int) (f2 : Bool) (hB : Below w0.heap.size w0 W) : qi w0 (W.alloc (.cells #[.string f0, .int .i64 f1, .bool f2] 85)) W.heap.size f0 f1 f2 := ⟨by simpa using heap_alloc_new W _, hB.size⟩

/-! ### qwb: function 73 -/
def qwb.f (s0_0 : ByteArray) (s0_1 : Int) (s0_2 : Bool) (a1 : Int) : Option (ByteArray × ByteArray × Int × Bool) := if s0_2 = true then (some ((⟨#[]⟩ : ByteArray), s0_0, s0_1, true)) else (if (wrap64 (s0_1 + a1)) > (s0_0.size : Int) then (some ((⟨#[]⟩ : ByteArray), s0_0, s0_1, true)) else (if 0 ≤ s0_1 then (if s0_1 ≤ (wrap64 (s0_1 + a1)) then (if (wrap64 (s0_1 + a1)) ≤ (s0_0.size : Int) then (some (s0_0.extract (s0_1 : Int).toNat ((wrap64 (s0_1 + a1)) : Int).toNat, s0_0, wrap64 (s0_1 + a1), s0_2)) else (none)) else (none)) else (none)))
set_option maxHeartbeats 8000000 in
set_option maxRecDepth 100000 in
theorem qwb.calls (g : Nat) (s0_0 : ByteArray) (s0_1 : Int) (s0_2 : Bool) (a1 : Int) (r1 : ByteArray) (r2 : ByteArray) (r3 : Int) (r4 : Bool) (w0 w : World) (hI : qi w0 w g s0_0 s0_1 s0_2) (hB : Below w0.heap.size w0 w) (h : qwb.f s0_0 s0_1 s0_2 a1 = some (r1, r2, r3, r4)) :
  Calls Try.prog 73 #[.pointer (some ⟨g, 0, none⟩), .int .i64 a1] w fun e w' => e = .returned (.string r1) ∧ qi w0 w' g r2 r3 r4 ∧ Below w0.heap.size w0 w' ∧ qh w w' g none := by
 have HI0 := qb.mk hI
 have HK := qb.mk (qh.refl w g none)
 have HL := qb.mk hB.size
 clear hI
 have HW0 := qb.mk hB.size
 have HB := qb.mk hB
 clear hB
 have H : (if s0_2 = true then (some ((⟨#[]⟩ : ByteArray), s0_0, s0_1, true)) else (if (wrap64 (s0_1 + a1)) > (s0_0.size : Int) then (some ((⟨#[]⟩ : ByteArray), s0_0, s0_1, true)) else (if 0 ≤ s0_1 then (if s0_1 ≤ (wrap64 (s0_1 + a1)) then (if (wrap64 (s0_1 + a1)) ≤ (s0_0.size : Int) then (some (s0_0.extract (s0_1 : Int).toNat ((wrap64 (s0_1 + a1)) : Int).toNat, s0_0, wrap64 (s0_1 + a1), s0_2)) else (none)) else (none)) else (none)))) = some (r1, r2, r3, r4) := h
 clear h
 by_cases c3 : s0_2 = true
 ·subst c3
  rw [if_pos rfl] at H
  simp only [Option.some.injEq, Prod.mk.injEq] at H
  obtain ⟨rfl, rfl, rfl, rfl⟩ := H
  obtain ⟨HGz4, hgz4⟩ := HI0.out
  have hcz4_0 := qsc HGz4
  have hcz4_1 := qtc HGz4
  have hcz4_2 := quc HGz4
  have hfz4_0 := qp HGz4 0
  have hfz4_1 := qp HGz4 1
  have hfz4_2 := qp HGz4 2
  clear HGz4 hgz4
  go_enter Try.func73, Try.ntmps73
  go_wp2
  repeat (go_quiet (fail); try go_wp2)
  go_ret
  exact ⟨by first | rfl | (simp [qv, qu] <;> rfl) | (simp [*, qv, qu] <;> rfl), by repeat (first | (with_reducible first | exact HI0.out | apply qi.alloc | apply qi.drewN | apply qi.drew | apply qi.set_0 | apply qi.set_1 | apply qi.set_2) | exact HI0.out), by repeat (first | (with_reducible first | exact HB.out | apply qf | apply qg | apply qe | refine qk ?_ (qi.ge HI0.out)) | exact HB.out), by repeat (first | (with_reducible first | exact HK.out | apply qh.set_ | apply qr | apply qq | apply qt) | exact HK.out)⟩
 ·replace c3 := Bool.eq_false_iff.mpr c3
  subst c3
  rw [if_neg (show ¬ (false = true) by decide)] at H
  by_cases c5 : (wrap64 (s0_1 + a1)) > (s0_0.size : Int)
  ·rw [if_pos c5] at H
   have c5b0 : decide ((s0_0.size : Int) < (wrap64 (s0_1 + a1))) = true := decide_eq_true c5
   clear c5
   simp only [Option.some.injEq, Prod.mk.injEq] at H
   obtain ⟨rfl, rfl, rfl, rfl⟩ := H
   obtain ⟨HGz6, hgz6⟩ := HI0.out
   have hcz6_0 := qsc HGz6
   have hcz6_1 := qtc HGz6
   have hcz6_2 := quc HGz6
   have hfz6_0 := qp HGz6 0
   have hfz6_1 := qp HGz6 1
   have hfz6_2 := qp HGz6 2
   clear HGz6 hgz6
   go_enter Try.func73, Try.ntmps73
   go_wp2
   repeat (go_quiet (fail); try go_wp2)
   go_ret
   exact ⟨by first | rfl | (simp [qv, qu] <;> rfl) | (simp [*, qv, qu] <;> rfl), by repeat (first | (with_reducible first | exact HI0.out | apply qi.alloc | apply qi.drewN | apply qi.drew | apply qi.set_0 | apply qi.set_1 | apply qi.set_2) | exact HI0.out), by repeat (first | (with_reducible first | exact HB.out | apply qf | apply qg | apply qe | refine qk ?_ (qi.ge HI0.out)) | exact HB.out), by repeat (first | (with_reducible first | exact HK.out | apply qh.set_ | apply qr | apply qq | apply qt) | exact HK.out)⟩
  ·rw [if_neg c5] at H
   have c5b0 : decide ((s0_0.size : Int) < (wrap64 (s0_1 + a1))) = false := decide_eq_false c5
   clear c5
   by_cases c7 : 0 ≤ s0_1
   ·rw [if_pos c7] at H
    have c7b0 := eq_true c7
    have c7b1 : decide (0 ≤ s0_1) = true := decide_eq_true c7
    clear c7
    by_cases c8 : s0_1 ≤ (wrap64 (s0_1 + a1))
    ·rw [if_pos c8] at H
     have c8b0 := eq_true c8
     have c8b1 : decide (s0_1 ≤ (wrap64 (s0_1 + a1))) = true := decide_eq_true c8
     by_cases c9 : (wrap64 (s0_1 + a1)) ≤ (s0_0.size : Int)
     ·rw [if_pos c9] at H
      have c9b0 := eq_true c9
      have c9b1 : decide ((wrap64 (s0_1 + a1)) ≤ (s0_0.size : Int)) = true := decide_eq_true c9
      simp only [Option.some.injEq, Prod.mk.injEq] at H
      obtain ⟨rfl, rfl, rfl, rfl⟩ := H
      obtain ⟨HGz10, hgz10⟩ := HI0.out
      have hcz10_0 := qsc HGz10
      have hcz10_1 := qtc HGz10
      have hcz10_2 := quc HGz10
      have hfz10_0 := qp HGz10 0
      have hfz10_1 := qp HGz10 1
      have hfz10_2 := qp HGz10 2
      clear HGz10 hgz10
      go_enter Try.func73, Try.ntmps73
      go_wp2
      repeat (go_quiet (fail); try go_wp2)
      go_ret
      exact ⟨by first | rfl | (simp [qv, qu] <;> rfl) | (simp [*, qv, qu] <;> rfl), by repeat (first | (with_reducible first | exact HI0.out | apply qi.alloc | apply qi.drewN | apply qi.drew | apply qi.set_0 | apply qi.set_1 | apply qi.set_2) | exact HI0.out), by repeat (first | (with_reducible first | exact HB.out | apply qf | apply qg | apply qe | refine qk ?_ (qi.ge HI0.out)) | exact HB.out), by repeat (first | (with_reducible first | exact HK.out | apply qh.set_ | apply qr | apply qq | apply qt) | exact HK.out)⟩
     ·rw [if_neg c9] at H
      exact absurd H (by simp)
    ·rw [if_neg c8] at H
     exact absurd H (by simp)
   ·rw [if_neg c7] at H
    exact absurd H (by simp)

/-! ### qTb: function 72 -/
def qTb.f (s0_0 : ByteArray) (s0_1 : Int) (s0_2 : Bool) : Option (Int × ByteArray × Int × Bool) := (qwb.f s0_0 s0_1 s0_2 2).bind fun bt176 => (if bt176.1.toList = ([] : List UInt8) then (some (0, bt176.2.1, bt176.2.2.1, bt176.2.2.2)) else (if 0 < (bt176.1.size : Int) then (if 1 < (bt176.1.size : Int) then (some (wrap64 ((wrap64 ((wrap64 (bt bt176.1 0)) * 256)) + (wrap64 (bt bt176.1 1))), bt176.2.1, bt176.2.2.1, bt176.2.2.2)) else (none)) else (none)))
set_option maxHeartbeats 8000000 in
set_option maxRecDepth 100000 in
theorem qTb.calls (g : Nat) (s0_0 : ByteArray) (s0_1 : Int) (s0_2 : Bool) (r1 : Int) (r2 : ByteArray) (r3 : Int) (r4 : Bool) (w0 w : World) (hI : qi w0 w g s0_0 s0_1 s0_2) (hB : Below w0.heap.size w0 w) (h : qTb.f s0_0 s0_1 s0_2 = some (r1, r2, r3, r4)) :
  Calls Try.prog 72 #[.pointer (some ⟨g, 0, none⟩)] w fun e w' => e = .returned (.int .i64 r1) ∧ qi w0 w' g r2 r3 r4 ∧ Below w0.heap.size w0 w' ∧ qh w w' g none := by
 have HI0 := qb.mk hI
 have HK := qb.mk (qh.refl w g none)
 have HL := qb.mk hB.size
 clear hI
 have HW0 := qb.mk hB.size
 have HB := qb.mk hB
 clear hB
 have H : ((qwb.f s0_0 s0_1 s0_2 2).bind fun bt176 => (if bt176.1.toList = ([] : List UInt8) then (some (0, bt176.2.1, bt176.2.2.1, bt176.2.2.2)) else (if 0 < (bt176.1.size : Int) then (if 1 < (bt176.1.size : Int) then (some (wrap64 ((wrap64 ((wrap64 (bt bt176.1 0)) * 256)) + (wrap64 (bt bt176.1 1))), bt176.2.1, bt176.2.2.1, bt176.2.2.2)) else (none)) else (none)))) = some (r1, r2, r3, r4) := h
 clear h
 replace H := Option.bind_eq_some_iff.mp H
 obtain ⟨⟨t176, t177, t178, t179⟩, A20, H⟩ := H
 try dsimp only at H
 have A2 := qb.mk A20
 clear A20
 by_cases c3 : t176.toList = ([] : List UInt8)
 ·rw [if_pos c3] at H
  have c3b0 : (t176.toList == ([] : List UInt8)) = true := beq_iff_eq.mpr c3
  have c3b1 : (t176.toList != ([] : List UInt8)) = false := bne_eq_false_iff_eq.mpr c3
  clear c3
  simp only [Option.some.injEq, Prod.mk.injEq] at H
  obtain ⟨rfl, rfl, rfl, rfl⟩ := H
  go_enter Try.func72, Try.ntmps72
  go_wp2_with (first | (go_at_call 73; (with_reducible refine (qwb.calls g s0_0 s0_1 s0_2 2 t176 t177 t178 t179 w0 _ ?side1 ?side2 A2.out).mono ?_); (case side1 => repeat (first | (with_reducible first | exact HI0.out | apply qi.alloc | apply qi.drewN | apply qi.drew | apply qi.set_0 | apply qi.set_1 | apply qi.set_2) | exact HI0.out)); (case side2 => repeat (first | (with_reducible first | exact HB.out | apply qf | apply qg | apply qe | refine qk ?_ (qi.ge HI0.out)) | exact HB.out)); rintro e w4 ⟨rfl, hi, hb, hk⟩; replace HK := qb.mk (qh.trans (by repeat (first | (with_reducible first | exact HK.out | apply qh.set_ | apply qr | apply qq | apply qt) | exact HK.out)) hk (.inl rfl)); replace HB := qb.mk (hb); replace HI0 := qb.mk (hi); (try clear hb); (try clear hb2); (try clear hk); (try clear hi)))
  repeat (go_quiet (first | (go_at_call 73; (with_reducible refine (qwb.calls g s0_0 s0_1 s0_2 2 t176 t177 t178 t179 w0 _ ?side1 ?side2 A2.out).mono ?_); (case side1 => repeat (first | (with_reducible first | exact HI0.out | apply qi.alloc | apply qi.drewN | apply qi.drew | apply qi.set_0 | apply qi.set_1 | apply qi.set_2) | exact HI0.out)); (case side2 => repeat (first | (with_reducible first | exact HB.out | apply qf | apply qg | apply qe | refine qk ?_ (qi.ge HI0.out)) | exact HB.out)); rintro e w4 ⟨rfl, hi, hb, hk⟩; replace HK := qb.mk (qh.trans (by repeat (first | (with_reducible first | exact HK.out | apply qh.set_ | apply qr | apply qq | apply qt) | exact HK.out)) hk (.inl rfl)); replace HB := qb.mk (hb); replace HI0 := qb.mk (hi); (try clear hb); (try clear hb2); (try clear hk); (try clear hi))); try go_wp2_with (first | (go_at_call 73; (with_reducible refine (qwb.calls g s0_0 s0_1 s0_2 2 t176 t177 t178 t179 w0 _ ?side1 ?side2 A2.out).mono ?_); (case side1 => repeat (first | (with_reducible first | exact HI0.out | apply qi.alloc | apply qi.drewN | apply qi.drew | apply qi.set_0 | apply qi.set_1 | apply qi.set_2) | exact HI0.out)); (case side2 => repeat (first | (with_reducible first | exact HB.out | apply qf | apply qg | apply qe | refine qk ?_ (qi.ge HI0.out)) | exact HB.out)); rintro e w4 ⟨rfl, hi, hb, hk⟩; replace HK := qb.mk (qh.trans (by repeat (first | (with_reducible first | exact HK.out | apply qh.set_ | apply qr | apply qq | apply qt) | exact HK.out)) hk (.inl rfl)); replace HB := qb.mk (hb); replace HI0 := qb.mk (hi); (try clear hb); (try clear hb2); (try clear hk); (try clear hi))))
  go_ret
  exact ⟨by first | rfl | (simp [qv, qu] <;> rfl) | (simp [*, qv, qu] <;> rfl), by repeat (first | (with_reducible first | exact HI0.out | apply qi.alloc | apply qi.drewN | apply qi.drew | apply qi.set_0 | apply qi.set_1 | apply qi.set_2) | exact HI0.out), by repeat (first | (with_reducible first | exact HB.out | apply qf | apply qg | apply qe | refine qk ?_ (qi.ge HI0.out)) | exact HB.out), by repeat (first | (with_reducible first | exact HK.out | apply qh.set_ | apply qr | apply qq | apply qt) | exact HK.out)⟩
 ·rw [if_neg c3] at H
  have c3b0 : (t176.toList == ([] : List UInt8)) = false := beq_eq_false_iff_ne.mpr c3
  have c3b1 : (t176.toList != ([] : List UInt8)) = true := bne_iff_ne.mpr c3
  by_cases c5 : 0 < (t176.size : Int)
  ·rw [if_pos c5] at H
   have c5b0 : decide (0 < (t176.size : Int)) = true := decide_eq_true c5
   have c5b1 : decide (0 < t176.size) = true := decide_eq_true (by omega)
   clear c5
   by_cases c7 : 1 < (t176.size : Int)
   ·rw [if_pos c7] at H
    have c7b0 : decide (1 < (t176.size : Int)) = true := decide_eq_true c7
    have c7b1 : decide (1 < t176.size) = true := decide_eq_true (by omega)
    clear c7
    simp only [Option.some.injEq, Prod.mk.injEq] at H
    obtain ⟨rfl, rfl, rfl, rfl⟩ := H
    go_enter Try.func72, Try.ntmps72
    go_wp2_with (first | (go_at_call 73; (with_reducible refine (qwb.calls g s0_0 s0_1 s0_2 2 t176 t177 t178 t179 w0 _ ?side1 ?side2 A2.out).mono ?_); (case side1 => repeat (first | (with_reducible first | exact HI0.out | apply qi.alloc | apply qi.drewN | apply qi.drew | apply qi.set_0 | apply qi.set_1 | apply qi.set_2) | exact HI0.out)); (case side2 => repeat (first | (with_reducible first | exact HB.out | apply qf | apply qg | apply qe | refine qk ?_ (qi.ge HI0.out)) | exact HB.out)); rintro e w9 ⟨rfl, hi, hb, hk⟩; replace HK := qb.mk (qh.trans (by repeat (first | (with_reducible first | exact HK.out | apply qh.set_ | apply qr | apply qq | apply qt) | exact HK.out)) hk (.inl rfl)); replace HB := qb.mk (hb); replace HI0 := qb.mk (hi); (try clear hb); (try clear hb2); (try clear hk); (try clear hi); have p6 : 0 ≤ (0 : Int) := (by omega); have q6 : 0 < t176.size := (by have : (0 : Int) < (t176.size : Int) := of_decide_eq_true (by first | (with_reducible assumption) | assumption); omega); have hx6 : ∀ h : 0 < t176.size, ((t176[0]'h).toNat : Int) = bt t176 0 := bt_at t176 0; clear p6; have qi6 : (0 < (t176.size : Int)) = True := eq_true (of_decide_eq_true (by first | (with_reducible assumption) | assumption)); replace q6 := eq_true q6; have p8 : 0 ≤ (1 : Int) := (by omega); have q8 : 1 < t176.size := (by have : (1 : Int) < (t176.size : Int) := of_decide_eq_true (by first | (with_reducible assumption) | assumption); omega); have hx8 : ∀ h : 1 < t176.size, ((t176[1]'h).toNat : Int) = bt t176 1 := bt_at t176 1; clear p8; have qi8 : (1 < (t176.size : Int)) = True := eq_true (of_decide_eq_true (by first | (with_reducible assumption) | assumption)); replace q8 := eq_true q8))
    repeat (go_quiet (first | (go_at_call 73; (with_reducible refine (qwb.calls g s0_0 s0_1 s0_2 2 t176 t177 t178 t179 w0 _ ?side1 ?side2 A2.out).mono ?_); (case side1 => repeat (first | (with_reducible first | exact HI0.out | apply qi.alloc | apply qi.drewN | apply qi.drew | apply qi.set_0 | apply qi.set_1 | apply qi.set_2) | exact HI0.out)); (case side2 => repeat (first | (with_reducible first | exact HB.out | apply qf | apply qg | apply qe | refine qk ?_ (qi.ge HI0.out)) | exact HB.out)); rintro e w9 ⟨rfl, hi, hb, hk⟩; replace HK := qb.mk (qh.trans (by repeat (first | (with_reducible first | exact HK.out | apply qh.set_ | apply qr | apply qq | apply qt) | exact HK.out)) hk (.inl rfl)); replace HB := qb.mk (hb); replace HI0 := qb.mk (hi); (try clear hb); (try clear hb2); (try clear hk); (try clear hi); have p6 : 0 ≤ (0 : Int) := (by omega); have q6 : 0 < t176.size := (by have : (0 : Int) < (t176.size : Int) := of_decide_eq_true (by first | (with_reducible assumption) | assumption); omega); have hx6 : ∀ h : 0 < t176.size, ((t176[0]'h).toNat : Int) = bt t176 0 := bt_at t176 0; clear p6; have qi6 : (0 < (t176.size : Int)) = True := eq_true (of_decide_eq_true (by first | (with_reducible assumption) | assumption)); replace q6 := eq_true q6; have p8 : 0 ≤ (1 : Int) := (by omega); have q8 : 1 < t176.size := (by have : (1 : Int) < (t176.size : Int) := of_decide_eq_true (by first | (with_reducible assumption) | assumption); omega); have hx8 : ∀ h : 1 < t176.size, ((t176[1]'h).toNat : Int) = bt t176 1 := bt_at t176 1; clear p8; have qi8 : (1 < (t176.size : Int)) = True := eq_true (of_decide_eq_true (by first | (with_reducible assumption) | assumption)); replace q8 := eq_true q8)); try go_wp2_with (first | (go_at_call 73; (with_reducible refine (qwb.calls g s0_0 s0_1 s0_2 2 t176 t177 t178 t179 w0 _ ?side1 ?side2 A2.out).mono ?_); (case side1 => repeat (first | (with_reducible first | exact HI0.out | apply qi.alloc | apply qi.drewN | apply qi.drew | apply qi.set_0 | apply qi.set_1 | apply qi.set_2) | exact HI0.out)); (case side2 => repeat (first | (with_reducible first | exact HB.out | apply qf | apply qg | apply qe | refine qk ?_ (qi.ge HI0.out)) | exact HB.out)); rintro e w9 ⟨rfl, hi, hb, hk⟩; replace HK := qb.mk (qh.trans (by repeat (first | (with_reducible first | exact HK.out | apply qh.set_ | apply qr | apply qq | apply qt) | exact HK.out)) hk (.inl rfl)); replace HB := qb.mk (hb); replace HI0 := qb.mk (hi); (try clear hb); (try clear hb2); (try clear hk); (try clear hi); have p6 : 0 ≤ (0 : Int) := (by omega); have q6 : 0 < t176.size := (by have : (0 : Int) < (t176.size : Int) := of_decide_eq_true (by first | (with_reducible assumption) | assumption); omega); have hx6 : ∀ h : 0 < t176.size, ((t176[0]'h).toNat : Int) = bt t176 0 := bt_at t176 0; clear p6; have qi6 : (0 < (t176.size : Int)) = True := eq_true (of_decide_eq_true (by first | (with_reducible assumption) | assumption)); replace q6 := eq_true q6; have p8 : 0 ≤ (1 : Int) := (by omega); have q8 : 1 < t176.size := (by have : (1 : Int) < (t176.size : Int) := of_decide_eq_true (by first | (with_reducible assumption) | assumption); omega); have hx8 : ∀ h : 1 < t176.size, ((t176[1]'h).toNat : Int) = bt t176 1 := bt_at t176 1; clear p8; have qi8 : (1 < (t176.size : Int)) = True := eq_true (of_decide_eq_true (by first | (with_reducible assumption) | assumption)); replace q8 := eq_true q8)))
    go_ret
    exact ⟨by first | rfl | (simp [qv, qu] <;> rfl) | (simp [*, qv, qu] <;> rfl), by repeat (first | (with_reducible first | exact HI0.out | apply qi.alloc | apply qi.drewN | apply qi.drew | apply qi.set_0 | apply qi.set_1 | apply qi.set_2) | exact HI0.out), by repeat (first | (with_reducible first | exact HB.out | apply qf | apply qg | apply qe | refine qk ?_ (qi.ge HI0.out)) | exact HB.out), by repeat (first | (with_reducible first | exact HK.out | apply qh.set_ | apply qr | apply qq | apply qt) | exact HK.out)⟩
   ·rw [if_neg c7] at H
    exact absurd H (by simp)
  ·rw [if_neg c5] at H
   exact absurd H (by simp)

/-! ### qQ: function 35 -/
mutual
def qQ.j2 : Nat → ByteArray → ByteArray → List (S43) → ByteArray → Int → Bool → Option ((List (S43)) × Int × Bool)
 | 0, _, _, _, _, _, _ => none
 | k + 1, x0, x1, x8, x181000, x181001, x181002 => if x181002 = true then (qQ.j3 k x0 x8 true) else (qQ.j3 k x0 x8 (decide (x181001 < (x1.size : Int))))
def qQ.j3 : Nat → ByteArray → List (S43) → Bool → Option ((List (S43)) × Int × Bool)
 | 0, _, _, _ => none
 | k + 1, x0, x8, x75 => if x75 = true then (some (([] : List (S43)), 1, false)) else ((qdb.f k x0 x8).bind fun t212 => (if t212 = true then (some (x8, 0, true)) else (some (([] : List (S43)), 3, false))))
def qQ.l0 : Nat → ByteArray → ByteArray → List (S43) → Int → ByteArray → Int → Bool → Option ((List (S43)) × Int × Bool)
 | 0, _, _, _, _, _, _, _ => none
 | k + 1, x0, x1, x8, x9, x181000, x181001, x181002 => if x9 > 0 then (qQ.j1 k x0 x1 x8 x9 (!x181002) x181000 x181001 x181002) else (qQ.j1 k x0 x1 x8 x9 false x181000 x181001 x181002)
def qQ.j1 : Nat → ByteArray → ByteArray → List (S43) → Int → Bool → ByteArray → Int → Bool → Option ((List (S43)) × Int × Bool)
 | 0, _, _, _, _, _, _, _, _ => none
 | k + 1, x0, x1, x8, x9, x25, x181000, x181001, x181002 => if x25 = true then ((qwb.f x181000 x181001 x181002 1).bind fun bt185 => (if bt185.2.2.2 = true then (qQ.j2 k x0 x1 x8 bt185.2.1 bt185.2.2.1 bt185.2.2.2) else (if 0 < (bt185.1.size : Int) then (if (wrap64 (bt bt185.1 0)) = 1 then ((qTb.f bt185.2.1 bt185.2.2.1 bt185.2.2.2).bind fun bt190 => ((qTb.f bt190.2.1 bt190.2.2.1 bt190.2.2.2).bind fun bt194 => (if x8.length < 3518437208883 then (qQ.l0 k x0 x1 (x8 ++ [(⟨wrap64 (bt bt185.1 0), bt190.1, bt194.1, (⟨#[]⟩ : ByteArray)⟩ : S43)]) (wrap64 (x9 - 1)) bt194.2.1 bt194.2.2.1 bt194.2.2.2) else (none)))) else (if (wrap64 (bt bt185.1 0)) = 2 then ((qTb.f bt185.2.1 bt185.2.2.1 bt185.2.2.2).bind fun bt201 => ((qwb.f bt201.2.1 bt201.2.2.1 bt201.2.2.2 bt201.1).bind fun bt205 => (if x8.length < 3518437208883 then (qQ.l0 k x0 x1 (x8 ++ [(⟨wrap64 (bt bt185.1 0), 0, 0, bt205.1⟩ : S43)]) (wrap64 (x9 - 1)) bt205.2.1 bt205.2.2.1 bt205.2.2.2) else (none)))) else (some (([] : List (S43)), 2, false)))) else (none)))) else (qQ.j2 k x0 x1 x8 x181000 x181001 x181002)
end
def qQ.f (k : Nat) (a0 : ByteArray) (a1 : ByteArray) : Option ((List (S43)) × Int × Bool) := (qTb.f a1 0 false).bind fun bt181 => (qQ.l0 k a0 a1 ([] : List (S43)) bt181.1 bt181.2.1 bt181.2.2.1 bt181.2.2.2)
theorem qQ.qjb : ∀ k, (∀ y0 y1 y2 y3 y4 y5, LeO (qQ.j2 k y0 y1 y2 y3 y4 y5) (qQ.j2 (k + 1) y0 y1 y2 y3 y4 y5)) ∧ (∀ y0 y1 y2, LeO (qQ.j3 k y0 y1 y2) (qQ.j3 (k + 1) y0 y1 y2)) ∧ (∀ y0 y1 y2 y3 y4 y5 y6, LeO (qQ.l0 k y0 y1 y2 y3 y4 y5 y6) (qQ.l0 (k + 1) y0 y1 y2 y3 y4 y5 y6)) ∧ (∀ y0 y1 y2 y3 y4 y5 y6 y7, LeO (qQ.j1 k y0 y1 y2 y3 y4 y5 y6 y7) (qQ.j1 (k + 1) y0 y1 y2 y3 y4 y5 y6 y7))
 | 0 => ⟨fun _ _ _ _ _ _ r h => by simp [qQ.j2] at h, fun _ _ _ r h => by simp [qQ.j3] at h, fun _ _ _ _ _ _ _ r h => by simp [qQ.l0] at h, fun _ _ _ _ _ _ _ _ r h => by simp [qQ.j1] at h⟩
 | k + 1 => by
  obtain ⟨ih0, ih1, ih2, ih3⟩ := qQ.qjb k
  refine ⟨?_, ?_, ?_, ?_⟩
  ·intro y0 y1 y2 y3 y4 y5
   unfold qQ.j2
   repeat' first
   | (with_reducible exact ih0 _ _ _ _ _ _)
   | (with_reducible exact ih1 _ _ _)
   | (with_reducible exact ih2 _ _ _ _ _ _ _)
   | (with_reducible exact ih3 _ _ _ _ _ _ _ _)
   | (with_reducible exact qdb.mono _ _ _)
   | (with_reducible exact LeO.refl _)
   | (with_reducible exact LeO.none _)
   | (with_reducible refine LeO.ite ?_ ?_)
   | (with_reducible refine LeO.bind ?_ (fun _ => ?_))
   | exact LeO.none _
   | refine LeO.ite ?_ ?_
   | refine LeO.bind ?_ (fun _ => ?_)
  ·intro y0 y1 y2
   unfold qQ.j3
   repeat' first
   | (with_reducible exact ih0 _ _ _ _ _ _)
   | (with_reducible exact ih1 _ _ _)
   | (with_reducible exact ih2 _ _ _ _ _ _ _)
   | (with_reducible exact ih3 _ _ _ _ _ _ _ _)
   | (with_reducible exact qdb.mono _ _ _)
   | (with_reducible exact LeO.refl _)
   | (with_reducible exact LeO.none _)
   | (with_reducible refine LeO.ite ?_ ?_)
   | (with_reducible refine LeO.bind ?_ (fun _ => ?_))
   | exact LeO.none _
   | refine LeO.ite ?_ ?_
   | refine LeO.bind ?_ (fun _ => ?_)
  ·intro y0 y1 y2 y3 y4 y5 y6
   unfold qQ.l0
   repeat' first
   | (with_reducible exact ih0 _ _ _ _ _ _)
   | (with_reducible exact ih1 _ _ _)
   | (with_reducible exact ih2 _ _ _ _ _ _ _)
   | (with_reducible exact ih3 _ _ _ _ _ _ _ _)
   | (with_reducible exact qdb.mono _ _ _)
   | (with_reducible exact LeO.refl _)
   | (with_reducible exact LeO.none _)
   | (with_reducible refine LeO.ite ?_ ?_)
   | (with_reducible refine LeO.bind ?_ (fun _ => ?_))
   | exact LeO.none _
   | refine LeO.ite ?_ ?_
   | refine LeO.bind ?_ (fun _ => ?_)
  ·intro y0 y1 y2 y3 y4 y5 y6 y7
   unfold qQ.j1
   repeat' first
   | (with_reducible exact ih0 _ _ _ _ _ _)
   | (with_reducible exact ih1 _ _ _)
   | (with_reducible exact ih2 _ _ _ _ _ _ _)
   | (with_reducible exact ih3 _ _ _ _ _ _ _ _)
   | (with_reducible exact qdb.mono _ _ _)
   | (with_reducible exact LeO.refl _)
   | (with_reducible exact LeO.none _)
   | (with_reducible refine LeO.ite ?_ ?_)
   | (with_reducible refine LeO.bind ?_ (fun _ => ?_))
   | exact LeO.none _
   | refine LeO.ite ?_ ?_
   | refine LeO.bind ?_ (fun _ => ?_)
theorem qQ.mono : ∀ a0 a1 k, LeO (qQ.f k a0 a1) (qQ.f (k + 1) a0 a1) := by
 intro a0 a1 k
 obtain ⟨ih0, ih1, ih2, ih3⟩ := qQ.qjb k
 unfold qQ.f
 repeat' first
   | (with_reducible exact ih0 _ _ _ _ _ _)
   | (with_reducible exact ih1 _ _ _)
   | (with_reducible exact ih2 _ _ _ _ _ _ _)
   | (with_reducible exact ih3 _ _ _ _ _ _ _ _)
   | (with_reducible exact qdb.mono _ _ _)
   | (with_reducible exact LeO.refl _)
   | (with_reducible exact LeO.none _)
   | (with_reducible refine LeO.ite ?_ ?_)
   | (with_reducible refine LeO.bind ?_ (fun _ => ?_))
   | exact LeO.none _
   | refine LeO.ite ?_ ?_
   | refine LeO.bind ?_ (fun _ => ?_)
set_option maxHeartbeats 8000000 in
set_option maxRecDepth 100000 in
theorem qQ.calls (k : Nat) (a0 : ByteArray) (a1 : ByteArray) (r1 : List (S43)) (r2 : Int) (r3 : Bool) (w : World) (h : qQ.f k a0 a1 = some (r1, r2, r3)) :
  Calls Try.prog 35 #[.string a0, .string a1] w fun e w' => ∃ v0_ : Value, e = .returned (.tuple #[v0_, .int .i64 r2, .bool r3]) ∧ Kd.R k43 43 w' w.heap.size (fun _ => True) v0_ r1 ∧ Below w.heap.size w w' := by
 have hu85 := Try.underlying85
 have hu43 := Try.underlying43
 have HB := qb.mk (Below.refl w.heap.size w)
 have H : ((qTb.f a1 0 false).bind fun bt181 => (qQ.l0 k a0 a1 ([] : List (S43)) bt181.1 bt181.2.1 bt181.2.2.1 bt181.2.2.2)) = some (r1, r2, r3) := h
 clear h
 replace H := Option.bind_eq_some_iff.mp H
 obtain ⟨⟨t181, t182, t183, t184⟩, A30, H⟩ := H
 try dsimp only at H
 have A3 := qb.mk A30
 clear A30
 have HC4 := qb.mk H
 clear H
 go_enter Try.func35, Try.ntmps35
 go_upto_block 0 with (first | ((with_reducible refine qcb (N := 14) rfl ?_); (try (refine qub (by rfl) ?_; dsimp only)); refine qpb ?hg (N := 14) ?hd (cs := #[.string a1, .int .i64 0, .bool false]) (t := 85) ?hr ?_; (case hd => rfl); (case hg => rfl); (case hr => first | (go_simp; done) | (go_simp; rfl)); intro gb180 hg w5 hbox hb; have BK180 := qb.mk (hbox); have GW180 := qb.mk ((by rw [hg]; exact (qG (by repeat (first | (with_reducible first | exact HB.out | apply qf | apply qg | apply qe) | exact HB.out))) : w.heap.size ≤ gb180)); have GE180 := qb.mk ((by rw [hg]; exact (qG (by repeat (first | (with_reducible first | exact HB.out | apply qf | apply qg | apply qe) | exact HB.out))) : w.heap.size ≤ gb180)); have HI180 := qb.mk ((show qi w w5 gb180 a1 0 false from ⟨hbox, (by rw [hg]; exact (qG (by repeat (first | (with_reducible first | exact HB.out | apply qf | apply qg | apply qe) | exact HB.out))) : w.heap.size ≤ gb180)⟩)); replace HB := qb.mk (qE (by repeat (first | (with_reducible first | exact HB.out | apply qf | apply qg | apply qe) | exact HB.out)) hb); clear hb hbox hg) | ((with_reducible refine qy (f := 72) rfl ?_); refine qz (some 16) rfl rfl Try.func72 (by kernel_rfl) rfl #[.pointer (some ⟨gb180, 0, none⟩)] rfl (by (try simp only [List.map_toArray, List.map_cons, List.map_nil]); first | done | rfl | (simp only [List.length_drop, List.length_take]; rfl)) ?_; (with_reducible refine (qTb.calls gb180 a1 0 false t181 t182 t183 t184 w _ ?side1 ?side2 A3.out).mono ?_); (case side1 => repeat (first | (with_reducible first | exact HI180.out | apply qi.alloc | apply qi.drewN | apply qi.drew | apply qi.set_0 | apply qi.set_1 | apply qi.set_2) | exact HI180.out)); (case side2 => repeat (first | (with_reducible first | exact HB.out | apply qf | apply qg | apply qe | refine qk ?_ (qi.ge HI180.out)) | exact HB.out)); rintro e w6 ⟨rfl, hi, hb, hk⟩; refine ⟨_, rfl, ?_⟩; replace HB := qb.mk (hb); replace HI180 := qb.mk (hi); (try clear hb); (try clear hb2); (try clear hk); (try clear hi)))
 (try simp only [Act.put, List.setIfInBounds_toArray, List.set_cons_zero, List.set_cons_succ])
 go_cut [8] (fun v8 wc => ∃ (kq : Nat) (x8_3 : List (S43)) (x181000_3 : ByteArray) (x181001_3 : Int) (x181002_3 : Bool), qb (qQ.j2 kq a0 a1 x8_3 x181000_3 x181001_3 x181002_3 = some (r1, r2, r3)) ∧ qb (kq ≤ k) ∧ qb (Kd.R k43 43 wc w.heap.size (fun _ => True) v8 x8_3) ∧ qb (qi w wc gb180 x181000_3 x181001_3 x181002_3) ∧ qb (Below w.heap.size w wc))
 case first =>
  have H := HC4.out
  clear HC4
  have H' := qb.mk H
  clear H
  go_wp2
  go_loopg [8, 9] k (fun kq v8 v9 w' => ∃ (x8_1 : List (S43)) (x9_1 : Int) (x181000_1 : ByteArray) (x181001_1 : Int) (x181002_1 : Bool), v9 = .int .i64 x9_1 ∧ qb (qQ.l0 kq a0 a1 x8_1 x9_1 x181000_1 x181001_1 x181002_1 = some (r1, r2, r3)) ∧ qb (kq ≤ k) ∧ qb (Kd.R k43 43 w' w.heap.size (fun _ => True) v8 x8_1) ∧ qb (qi w w' gb180 x181000_1 x181001_1 x181002_1) ∧ qb (Below w.heap.size w w'))
  case atStart => exact ⟨(([] : List (S43))), (t181), (t182), (t183), (t184), (by first | rfl | (simp; done) | (simp [*]; done)), H', ⟨Nat.le_refl _⟩, ⟨by first | exact Kd.R_nil _ _ _ _ _ | exact Kd.N_nil _ _ _ _ _ | exact Kd.V_nil _ _ _ _ _ | exact Kd.Q_nil _ _ _ _ _ | exact Kd.S_nil _ _ _ _ _⟩, ⟨by repeat (first | (with_reducible first | exact HI180.out | apply qi.alloc | apply qi.drewN | apply qi.drew | apply qi.set_0 | apply qi.set_1 | apply qi.set_2) | exact HI180.out)⟩, ⟨by repeat (first | (with_reducible first | exact HB.out | apply qf | apply qg | apply qe | refine qk ?_ (qi.ge HI180.out)) | exact HB.out)⟩⟩
  case round =>
   clear H'
   try clear p2
   try clear c3
   obtain ⟨x8_1, x9_1, x181000_1, x181001_1, x181002_1, rfl, HA, HK1, HO_8, HI180, HB⟩ := hrel
   cases gk with
   | zero => exact absurd HA.out (by simp [qQ.l0])
   | succ k1 =>
    have H := HA.out
    clear HA
    simp only [qQ.l0] at H
    have HC7 := qb.mk H
    clear H
    go_upto_region 4 with (fail)
    go_cut [25] (fun v25 wc => ∃ (kq : Nat) (x25_6 : Bool), v25 = .bool x25_6 ∧ qb (qQ.j1 kq a0 a1 x8_1 x9_1 x25_6 x181000_1 x181001_1 x181002_1 = some (r1, r2, r3)) ∧ qb (kq ≤ k1) ∧ qb (Kd.R k43 43 wc w.heap.size (fun _ => True) u8 x8_1) ∧ qb (qi w wc gb180 x181000_1 x181001_1 x181002_1) ∧ qb (Below w.heap.size w wc))
    case first =>
     have H := HC7.out
     clear HC7
     by_cases c8 : x9_1 > 0
     ·rw [if_pos c8] at H
      have c8b0 : decide (0 < x9_1) = true := decide_eq_true c8
      clear c8
      (first | rw [c8b0] | (simp only [i64_w, i32_w]; rw [c8b0]) | skip)
      have H' := qb.mk H
      clear H
      obtain ⟨HGz9, hgz9⟩ := HI180.out
      have hcz9_0 := qsc HGz9
      have hcz9_1 := qtc HGz9
      have hcz9_2 := quc HGz9
      have hfz9_0 := qp HGz9 0
      have hfz9_1 := qp HGz9 1
      have hfz9_2 := qp HGz9 2
      clear HGz9 hgz9
      go_wp2
      go_meet
      case rel => exact ⟨_, (!x181002_1), (by first | rfl | (simp; done) | (simp [*]; done)), H', ⟨by have := HK1.out; first | omega | exact Nat.le_refl _⟩, ⟨by (with_reducible repeat (first | apply Kd.qo | apply Kd.qn | apply Kd.qm)); exact HO_8.out⟩, ⟨by repeat (first | (with_reducible first | exact HI180.out | apply qi.alloc | apply qi.drewN | apply qi.drew | apply qi.set_0 | apply qi.set_1 | apply qi.set_2) | exact HI180.out)⟩, ⟨by repeat (first | (with_reducible first | exact HB.out | apply qf | apply qg | apply qe | refine qk ?_ (qi.ge HI180.out)) | exact HB.out)⟩⟩
     ·rw [if_neg c8] at H
      have c8b0 : decide (0 < x9_1) = false := decide_eq_false c8
      clear c8
      (first | rw [c8b0] | (simp only [i64_w, i32_w]; rw [c8b0]) | skip)
      have H' := qb.mk H
      clear H
      go_wp2
      go_meet
      case rel => exact ⟨_, (false), (by first | rfl | (simp; done) | (simp [*]; done)), H', ⟨by have := HK1.out; first | omega | exact Nat.le_refl _⟩, ⟨by (with_reducible repeat (first | apply Kd.qo | apply Kd.qn | apply Kd.qm)); exact HO_8.out⟩, ⟨by repeat (first | (with_reducible first | exact HI180.out | apply qi.alloc | apply qi.drewN | apply qi.drew | apply qi.set_0 | apply qi.set_1 | apply qi.set_2) | exact HI180.out)⟩, ⟨by repeat (first | (with_reducible first | exact HB.out | apply qf | apply qg | apply qe | refine qk ?_ (qi.ge HI180.out)) | exact HB.out)⟩⟩
    case rest =>
     clear HC7
     try clear p2
     try clear c3
     try clear c7
     try clear c8
     try clear c8b0
     try clear hcz9_0
     try clear hcz9_1
     try clear hcz9_2
     try clear hfz9_0
     try clear hfz9_1
     try clear hfz9_2
     try clear p2
     obtain ⟨kq, x25_6, rfl, HA, HJ6, HO_8, HI180, HB⟩ := hcut
     cases kq with
     | zero => exact absurd HA.out (by simp [qQ.j1])
     | succ kj6 =>
      have H := HA.out
      clear HA
      simp only [qQ.j1] at H
      by_cases c10 : x25_6 = true
      ·subst c10
       rw [if_pos rfl] at H
       replace H := Option.bind_eq_some_iff.mp H
       obtain ⟨⟨t185, t186, t187, t188⟩, A110, H⟩ := H
       try dsimp only at H
       have A11 := qb.mk A110
       clear A110
       by_cases c12 : t188 = true
       ·subst c12
        rw [if_pos rfl] at H
        have H' := qb.mk H
        clear H
        go_wp2_with (first | ((with_reducible refine qy (f := 73) rfl ?_); refine qz (some 29) rfl rfl Try.func73 (by kernel_rfl) rfl #[.pointer (some ⟨gb180, 0, none⟩), .int .i64 1] rfl (by (try simp only [List.map_toArray, List.map_cons, List.map_nil]); first | done | rfl | (simp only [List.length_drop, List.length_take]; rfl)) ?_; (with_reducible refine (qwb.calls gb180 x181000_1 x181001_1 x181002_1 1 t185 t186 t187 true w _ ?side1 ?side2 A11.out).mono ?_); (case side1 => repeat (first | (with_reducible first | exact HI180.out | apply qi.alloc | apply qi.drewN | apply qi.drew | apply qi.set_0 | apply qi.set_1 | apply qi.set_2) | exact HI180.out)); (case side2 => repeat (first | (with_reducible first | exact HB.out | apply qf | apply qg | apply qe | refine qk ?_ (qi.ge HI180.out)) | exact HB.out)); rintro e w13 ⟨rfl, hi, hb, hk⟩; refine ⟨_, rfl, ?_⟩; replace HO_8 := qb.mk (Kd.qF (Kd.qeb (qi.apart (show qi w _ gb180 x181000_1 x181001_1 x181002_1 from by repeat (first | (with_reducible first | exact HI180.out | apply qi.alloc | apply qi.drewN | apply qi.drew | apply qi.set_0 | apply qi.set_1 | apply qi.set_2) | exact HI180.out)) (by (with_reducible repeat (first | apply Kd.qo | apply Kd.qn | apply Kd.qm)); exact HO_8.out) (by decide)) hk (fun _ h => h.2)) (fun _ h => h.1)); replace HB := qb.mk (hb); replace HI180 := qb.mk (hi); (try clear hb); (try clear hb2); (try clear hk); (try clear hi); obtain ⟨HGz14, hgz14⟩ := HI180.out; have hcz14_0 := qsc HGz14; have hcz14_1 := qtc HGz14; have hcz14_2 := quc HGz14; have hfz14_0 := qp HGz14 0; have hfz14_1 := qp HGz14 1; have hfz14_2 := qp HGz14 2; clear HGz14 hgz14))
        go_meet
        case rel => exact ⟨_, (x8_1), (t186), (t187), (true), H', ⟨by have := HK1.out; have := HJ6.out; first | omega | exact Nat.le_refl _⟩, ⟨by (with_reducible repeat (first | apply Kd.qo | apply Kd.qn | apply Kd.qm)); exact HO_8.out⟩, ⟨by repeat (first | (with_reducible first | exact HI180.out | apply qi.alloc | apply qi.drewN | apply qi.drew | apply qi.set_0 | apply qi.set_1 | apply qi.set_2) | exact HI180.out)⟩, ⟨by repeat (first | (with_reducible first | exact HB.out | apply qf | apply qg | apply qe | refine qk ?_ (qi.ge HI180.out)) | exact HB.out)⟩⟩
       ·replace c12 := Bool.eq_false_iff.mpr c12
        subst c12
        rw [if_neg (show ¬ (false = true) by decide)] at H
        by_cases c15 : 0 < (t185.size : Int)
        ·rw [if_pos c15] at H
         have c15b0 : decide (0 < (t185.size : Int)) = true := decide_eq_true c15
         have c15b1 : decide (0 < t185.size) = true := decide_eq_true (by omega)
         clear c15
         by_cases c17 : (wrap64 (bt t185 0)) = 1
         ·rw [if_pos c17] at H
          have c17b0 : ((wrap64 (bt t185 0)) == 1) = true := beq_iff_eq.mpr c17
          have c17b1 : ((wrap64 (bt t185 0)) != 1) = false := bne_eq_false_iff_eq.mpr c17
          clear c17
          replace H := Option.bind_eq_some_iff.mp H
          obtain ⟨⟨t190, t191, t192, t193⟩, A180, H⟩ := H
          try dsimp only at H
          have A18 := qb.mk A180
          clear A180
          replace H := Option.bind_eq_some_iff.mp H
          obtain ⟨⟨t194, t195, t196, t197⟩, A190, H⟩ := H
          try dsimp only at H
          have A19 := qb.mk A190
          clear A190
          by_cases c20 : x8_1.length < 3518437208883
          ·rw [if_pos c20] at H
           have LMc20 := qb.mk c20
           clear c20
           obtain ⟨y198, hy198⟩ : ∃ y_ : List (S43), y_ = (x8_1 ++ [(⟨wrap64 (bt t185 0), t190, t194, (⟨#[]⟩ : ByteArray)⟩ : S43)]) := ⟨_, rfl⟩
           replace H : (qQ.l0 kj6 a0 a1 y198 (wrap64 (x9_1 - 1)) t195 t196 t197) = some (r1, r2, r3) := by first | (rw [hy198]; with_reducible exact H) | (have H2_ := (Option.bind_some _ _).symm.trans H; rw [hy198]; with_reducible exact H2_) | (have H2_ := (Option.bind_some _ _).symm.trans H; with_reducible exact H2_) | with_reducible exact H | (rw [hy198]; exact H) | exact H
           have Ny198 := qb.mk hy198
           clear hy198
           have H' := qb.mk H
           clear H
           go_wp2_with (first | ((with_reducible refine qy (f := 73) rfl ?_); refine qz (some 29) rfl rfl Try.func73 (by kernel_rfl) rfl #[.pointer (some ⟨gb180, 0, none⟩), .int .i64 1] rfl (by (try simp only [List.map_toArray, List.map_cons, List.map_nil]); first | done | rfl | (simp only [List.length_drop, List.length_take]; rfl)) ?_; (with_reducible refine (qwb.calls gb180 x181000_1 x181001_1 x181002_1 1 t185 t186 t187 false w _ ?side1 ?side2 A11.out).mono ?_); (case side1 => repeat (first | (with_reducible first | exact HI180.out | apply qi.alloc | apply qi.drewN | apply qi.drew | apply qi.set_0 | apply qi.set_1 | apply qi.set_2) | exact HI180.out)); (case side2 => repeat (first | (with_reducible first | exact HB.out | apply qf | apply qg | apply qe | refine qk ?_ (qi.ge HI180.out)) | exact HB.out)); rintro e w21 ⟨rfl, hi, hb, hk⟩; refine ⟨_, rfl, ?_⟩; replace HO_8 := qb.mk (Kd.qF (Kd.qeb (qi.apart (show qi w _ gb180 x181000_1 x181001_1 x181002_1 from by repeat (first | (with_reducible first | exact HI180.out | apply qi.alloc | apply qi.drewN | apply qi.drew | apply qi.set_0 | apply qi.set_1 | apply qi.set_2) | exact HI180.out)) (by (with_reducible repeat (first | apply Kd.qo | apply Kd.qn | apply Kd.qm)); exact HO_8.out) (by decide)) hk (fun _ h => h.2)) (fun _ h => h.1)); replace HB := qb.mk (hb); replace HI180 := qb.mk (hi); (try clear hb); (try clear hb2); (try clear hk); (try clear hi); obtain ⟨HGz22, hgz22⟩ := HI180.out; have hcz22_0 := qsc HGz22; have hcz22_1 := qtc HGz22; have hcz22_2 := quc HGz22; have hfz22_0 := qp HGz22 0; have hfz22_1 := qp HGz22 1; have hfz22_2 := qp HGz22 2; clear HGz22 hgz22; have p16 : 0 ≤ (0 : Int) := (by omega); have q16 : 0 < t185.size := (by have : (0 : Int) < (t185.size : Int) := of_decide_eq_true (by first | (with_reducible assumption) | assumption); omega); have hx16 : ∀ h : 0 < t185.size, ((t185[0]'h).toNat : Int) = bt t185 0 := bt_at t185 0; clear p16; have qi16 : (0 < (t185.size : Int)) = True := eq_true (of_decide_eq_true (by first | (with_reducible assumption) | assumption)); replace q16 := eq_true q16) | ((with_reducible refine qcb (N := 11) rfl ?_); (try (refine qub (by rfl) ?_; dsimp only)); refine qpb ?hg (N := 11) ?hd (cs := #[.int .i64 0, .int .i64 0, .int .i64 0, .string (⟨#[]⟩ : ByteArray)]) (t := 43) ?hr ?_; (case hd => rfl); (case hg => rfl); (case hr => first | (go_simp; done) | (go_simp; rfl)); intro gb189 hg w23 hbox hb; have BK189 := qb.mk (hbox); have GW189 := qb.mk ((by rw [hg]; exact (qG (by repeat (first | (with_reducible first | exact HB.out | apply qf | apply qg | apply qe | refine qk ?_ (qi.ge HI180.out)) | exact HB.out))) : w.heap.size ≤ gb189)); have GE189 := qb.mk ((by rw [hg]; exact (qG (by repeat (first | (with_reducible first | exact HB.out | apply qf | apply qg | apply qe | refine qk ?_ (qi.ge HI180.out)) | exact HB.out))) : w.heap.size ≤ gb189)); have NB180_189 := qb.mk ((by rw [hg]; exact Nat.ne_of_lt (qi.lt (show qi w _ gb180 t186 t187 false from by repeat (first | (with_reducible first | exact HI180.out | apply qi.alloc | apply qi.drewN | apply qi.drew | apply qi.set_0 | apply qi.set_1 | apply qi.set_2) | exact HI180.out))) : gb180 ≠ gb189)); have NB189_180 := qb.mk ((by rw [hg]; exact Nat.ne_of_gt (qi.lt (show qi w _ gb180 t186 t187 false from by repeat (first | (with_reducible first | exact HI180.out | apply qi.alloc | apply qi.drewN | apply qi.drew | apply qi.set_0 | apply qi.set_1 | apply qi.set_2) | exact HI180.out))) : gb189 ≠ gb180)); replace HO_8 := qb.mk (Kd.qX (Kd.qqc (by (with_reducible repeat (first | apply Kd.qo | apply Kd.qn | apply Kd.qm)); exact HO_8.out) gb189 (Nat.le_of_eq hg.symm)) hb); replace HB := qb.mk (qE (by repeat (first | (with_reducible first | exact HB.out | apply qf | apply qg | apply qe | refine qk ?_ (qi.ge HI180.out)) | exact HB.out)) hb); replace HI180 := qb.mk (qi.below (by repeat (first | (with_reducible first | exact HI180.out | apply qi.alloc | apply qi.drewN | apply qi.drew | apply qi.set_0 | apply qi.set_1 | apply qi.set_2) | exact HI180.out)) hb); clear hb hbox hg; have hnb24 := NB189_180.out; have hnc24 := NB180_189.out; have hcz25_0 : w23.cell? ⟨gb189, 0, none⟩ = some (.int .i64 0) := (ql BK189.out 0).trans rfl; have hcz25_1 : w23.cell? ⟨gb189, 1, none⟩ = some (.int .i64 0) := (ql BK189.out 1).trans rfl; have hcz25_2 : w23.cell? ⟨gb189, 2, none⟩ = some (.int .i64 0) := (ql BK189.out 2).trans rfl; have hcz25_3 : w23.cell? ⟨gb189, 3, none⟩ = some (.string (⟨#[]⟩ : ByteArray)) := (ql BK189.out 3).trans rfl; have hfz25_0 := qp BK189.out 0; have hfz25_1 := qp BK189.out 1; have hfz25_2 := qp BK189.out 2; have hfz25_3 := qp BK189.out 3) | ((with_reducible refine qy (f := 72) rfl ?_); refine qz (some 43) rfl rfl Try.func72 (by kernel_rfl) rfl #[.pointer (some ⟨gb180, 0, none⟩)] rfl (by (try simp only [List.map_toArray, List.map_cons, List.map_nil]); first | done | rfl | (simp only [List.length_drop, List.length_take]; rfl)) ?_; (with_reducible refine (qTb.calls gb180 t186 t187 false t190 t191 t192 t193 w _ ?side1 ?side2 A18.out).mono ?_); (case side1 => repeat (first | (with_reducible first | exact HI180.out | apply qi.alloc | apply qi.drewN | apply qi.drew | apply qi.set_0 | apply qi.set_1 | apply qi.set_2 | refine qi.far ?_ NB180_189.out _) | exact HI180.out)); (case side2 => repeat (first | (with_reducible first | exact HB.out | apply qf | apply qg | apply qe | refine qk ?_ (qi.ge HI180.out) | refine qk ?_ GE189.out) | exact HB.out)); rintro e w26 ⟨rfl, hi, hb, hk⟩; refine ⟨_, rfl, ?_⟩; replace HO_8 := qb.mk (Kd.qF (Kd.qeb (qi.apart (show qi w _ gb180 t186 t187 false from by repeat (first | (with_reducible first | exact HI180.out | apply qi.alloc | apply qi.drewN | apply qi.drew | apply qi.set_0 | apply qi.set_1 | apply qi.set_2 | refine qi.far ?_ NB180_189.out _) | exact HI180.out)) (by (with_reducible repeat (first | apply Kd.qo | apply Kd.qn | apply Kd.qm)); exact (Kd.qF (Kd.R_far (p := ⟨gb189, 3, none⟩) (Kd.R_far (p := ⟨gb189, 2, none⟩) (Kd.R_far (p := ⟨gb189, 1, none⟩) (Kd.R_far (p := ⟨gb189, 0, none⟩) (Kd.qF HO_8.out (fun k_ hk => (⟨hk, hk.2⟩ : _ ∧ k_ ≠ gb189))) (fun _ hk => hk.2) (.int .i64 (wrap64 (bt t185 0)))) (fun _ hk => hk.2) (.int .i64 0)) (fun _ hk => hk.2) (.int .i64 0)) (fun _ hk => hk.2) (.string (⟨#[]⟩ : ByteArray))) (fun _ h_ => h_.1))) (by decide)) hk (fun _ h => h.2)) (fun _ h => h.1)); replace BK189 := qb.mk (qh.blk hk (g' := gb189) (o := .cells #[.int .i64 (wrap64 (bt t185 0)), .int .i64 0, .int .i64 0, .string (⟨#[]⟩ : ByteArray)] 43 (0, 0)) (by (with_reducible repeat (first | refine qB ?_ _ | refine qx ?_ | refine qC ?_ _)); refine qL (cs := #[.int .i64 (wrap64 (bt t185 0)), .int .i64 0, .int .i64 0, .string (⟨#[]⟩ : ByteArray)]) ?_ 3 _ rfl; (with_reducible repeat (first | refine qB ?_ _ | refine qx ?_ | refine qC ?_ _)); refine qL (cs := #[.int .i64 (wrap64 (bt t185 0)), .int .i64 0, .int .i64 0, .string (⟨#[]⟩ : ByteArray)]) ?_ 2 _ rfl; (with_reducible repeat (first | refine qB ?_ _ | refine qx ?_ | refine qC ?_ _)); refine qL (cs := #[.int .i64 (wrap64 (bt t185 0)), .int .i64 0, .int .i64 0, .string (⟨#[]⟩ : ByteArray)]) ?_ 1 _ rfl; (with_reducible repeat (first | refine qB ?_ _ | refine qx ?_ | refine qC ?_ _)); refine qL (cs := #[.int .i64 0, .int .i64 0, .int .i64 0, .string (⟨#[]⟩ : ByteArray)]) ?_ 0 _ rfl; (with_reducible repeat (first | refine qB ?_ _ | refine qx ?_ | refine qC ?_ _)); exact BK189.out) NB189_180.out (by simp)); replace HB := qb.mk (hb); replace HI180 := qb.mk (hi); (try clear hb); (try clear hb2); (try clear hk); (try clear hi); have hcz27_0 : w26.cell? ⟨gb189, 0, none⟩ = some (.int .i64 (wrap64 (bt t185 0))) := (ql BK189.out 0).trans rfl; have hcz27_1 : w26.cell? ⟨gb189, 1, none⟩ = some (.int .i64 0) := (ql BK189.out 1).trans rfl; have hcz27_2 : w26.cell? ⟨gb189, 2, none⟩ = some (.int .i64 0) := (ql BK189.out 2).trans rfl; have hcz27_3 : w26.cell? ⟨gb189, 3, none⟩ = some (.string (⟨#[]⟩ : ByteArray)) := (ql BK189.out 3).trans rfl; have hfz27_0 := qp BK189.out 0; have hfz27_1 := qp BK189.out 1; have hfz27_2 := qp BK189.out 2; have hfz27_3 := qp BK189.out 3) | ((with_reducible refine qy (f := 72) rfl ?_); refine qz (some 46) rfl rfl Try.func72 (by kernel_rfl) rfl #[.pointer (some ⟨gb180, 0, none⟩)] rfl (by (try simp only [List.map_toArray, List.map_cons, List.map_nil]); first | done | rfl | (simp only [List.length_drop, List.length_take]; rfl)) ?_; (with_reducible refine (qTb.calls gb180 t191 t192 t193 t194 t195 t196 t197 w _ ?side1 ?side2 A19.out).mono ?_); (case side1 => repeat (first | (with_reducible first | exact HI180.out | apply qi.alloc | apply qi.drewN | apply qi.drew | apply qi.set_0 | apply qi.set_1 | apply qi.set_2 | refine qi.far ?_ NB180_189.out _) | exact HI180.out)); (case side2 => repeat (first | (with_reducible first | exact HB.out | apply qf | apply qg | apply qe | refine qk ?_ (qi.ge HI180.out) | refine qk ?_ GE189.out) | exact HB.out)); rintro e w28 ⟨rfl, hi, hb, hk⟩; refine ⟨_, rfl, ?_⟩; replace HO_8 := qb.mk (Kd.qF (Kd.qeb (qi.apart (show qi w _ gb180 t191 t192 t193 from by repeat (first | (with_reducible first | exact HI180.out | apply qi.alloc | apply qi.drewN | apply qi.drew | apply qi.set_0 | apply qi.set_1 | apply qi.set_2 | refine qi.far ?_ NB180_189.out _) | exact HI180.out)) (by (with_reducible repeat (first | apply Kd.qo | apply Kd.qn | apply Kd.qm)); exact (Kd.qF (Kd.R_far (p := ⟨gb189, 1, none⟩) (Kd.qF HO_8.out (fun k_ hk => (⟨hk, hk.2⟩ : _ ∧ k_ ≠ gb189))) (fun _ hk => hk.2) (.int .i64 t190)) (fun _ h_ => h_.1))) (by decide)) hk (fun _ h => h.2)) (fun _ h => h.1)); replace BK189 := qb.mk (qh.blk hk (g' := gb189) (o := .cells #[.int .i64 (wrap64 (bt t185 0)), .int .i64 t190, .int .i64 0, .string (⟨#[]⟩ : ByteArray)] 43 (0, 0)) (by (with_reducible repeat (first | refine qB ?_ _ | refine qx ?_ | refine qC ?_ _)); refine qL (cs := #[.int .i64 (wrap64 (bt t185 0)), .int .i64 0, .int .i64 0, .string (⟨#[]⟩ : ByteArray)]) ?_ 1 _ rfl; (with_reducible repeat (first | refine qB ?_ _ | refine qx ?_ | refine qC ?_ _)); exact BK189.out) NB189_180.out (by simp)); replace HB := qb.mk (hb); replace HI180 := qb.mk (hi); (try clear hb); (try clear hb2); (try clear hk); (try clear hi); have hcz29_0 : w28.cell? ⟨gb189, 0, none⟩ = some (.int .i64 (wrap64 (bt t185 0))) := (ql BK189.out 0).trans rfl; have hcz29_1 : w28.cell? ⟨gb189, 1, none⟩ = some (.int .i64 t190) := (ql BK189.out 1).trans rfl; have hcz29_2 : w28.cell? ⟨gb189, 2, none⟩ = some (.int .i64 0) := (ql BK189.out 2).trans rfl; have hcz29_3 : w28.cell? ⟨gb189, 3, none⟩ = some (.string (⟨#[]⟩ : ByteArray)) := (ql BK189.out 3).trans rfl; have hfz29_0 := qp BK189.out 0; have hfz29_1 := qp BK189.out 1; have hfz29_2 := qp BK189.out 2; have hfz29_3 := qp BK189.out 3) | ((with_reducible refine qhc (b := .append) (xs := #[.tmp 48, .tmp 50]) rfl ?_); (try (refine qub (by rfl) ?_; dsimp only)); at_builtin; refine Kd.qkc k43 (w0 := w) w.heap.size rfl (.tmp 48) (.tmp 50) 26 43 (.agg #[(.int .i64 0), (.int .i64 0), (.int .i64 0), (.string ⟨#[]⟩)]) 40 rfl Try.underlying26 info43 rfl (by decide) (by omega) u8 x8_1 (⟨wrap64 (bt t185 0), t190, t194, (⟨#[]⟩ : ByteArray)⟩ : S43) [.int .i64 (wrap64 (bt t185 0)), .int .i64 t190, .int .i64 t194, .string (⟨#[]⟩ : ByteArray)] (fun k_ => k_ ≠ gb189) (fun _ => False) rfl (by first | (go_simp; done) | (go_simp; rfl)) ?aP (fun _ hk => hk.elim) ?aF ?aO ?aB ?aS ?aL ?_; (case aP => exact qvb _ _ _ (⟨wrap64 (bt t185 0), t190, t194, (⟨#[]⟩ : ByteArray)⟩ : S43)); (case aB => exact (by repeat (first | (with_reducible first | exact HB.out | apply qf | apply qg | apply qe | refine qk ?_ (qi.ge HI180.out) | refine qk ?_ GE189.out) | exact HB.out))); (case aF => exact (fun k_ hk => Kd.freshB (g := gb189) (o := .cells #[.int .i64 (wrap64 (bt t185 0)), .int .i64 t190, .int .i64 t194, .string (⟨#[]⟩ : ByteArray)] 43 (0, 0)) (by (with_reducible repeat (first | refine qB ?_ _ | refine qx ?_ | refine qC ?_ _)); refine qL (cs := #[.int .i64 (wrap64 (bt t185 0)), .int .i64 t190, .int .i64 0, .string (⟨#[]⟩ : ByteArray)]) ?_ 2 _ rfl; (with_reducible repeat (first | refine qB ?_ _ | refine qx ?_ | refine qC ?_ _)); exact BK189.out) k_ hk)); (case aO => exact (by (with_reducible repeat (first | apply Kd.qo | apply Kd.qn | apply Kd.qm)); exact Kd.qF (Kd.R_far (p := ⟨gb189, 2, none⟩) (Kd.qF HO_8.out (fun k_ hk => (⟨hk, hk.2⟩ : _ ∧ k_ ≠ gb189))) (fun _ hk => hk.2) (.int .i64 t194)) (fun _ hk => hk.1.2))); (case aS => exact (qG (by repeat (first | (with_reducible first | exact HB.out | apply qf | apply qg | apply qe | refine qk ?_ (qi.ge HI180.out) | refine qk ?_ GE189.out) | exact HB.out)))); (case aL => have := LMc20.out; omega); intro v199 w30 ho hb hg hat; rw [← Ny198.out] at ho; have HO200 := qb.mk (ho); replace HI180 := qb.mk (qi.grown (show qi w _ gb180 t195 t196 t197 from by repeat (first | (with_reducible first | exact HI180.out | apply qi.alloc | apply qi.drewN | apply qi.drew | apply qi.set_0 | apply qi.set_1 | apply qi.set_2 | refine qi.far ?_ NB180_189.out _) | exact HI180.out)) hg (qi.own_ne HI180.out HO_8.out (by decide))); replace BK189 := qb.mk (qJb (g := gb189) (o := .cells #[.int .i64 (wrap64 (bt t185 0)), .int .i64 t190, .int .i64 t194, .string (⟨#[]⟩ : ByteArray)] 43 (0, 0)) (by (with_reducible repeat (first | refine qB ?_ _ | refine qx ?_ | refine qC ?_ _)); refine qL (cs := #[.int .i64 (wrap64 (bt t185 0)), .int .i64 t190, .int .i64 0, .string (⟨#[]⟩ : ByteArray)]) ?_ 2 _ rfl; (with_reducible repeat (first | refine qB ?_ _ | refine qx ?_ | refine qC ?_ _)); exact BK189.out) hg (Kd.qfc HO_8.out (fun _ hk => hk.2))); replace HB := qb.mk (hb); clear HO_8; clear ho hb hg hat))
           go_roundg kj6
           case measure => have := HK1.out; have := HJ6.out; omega
           case rel => exact ⟨(y198), (wrap64 (x9_1 - 1)), (t195), (t196), (t197), (by first | rfl | (simp; done) | (simp [*]; done)), H', ⟨by have := HK1.out; have := HJ6.out; omega⟩, ⟨by (with_reducible repeat (first | apply Kd.qo | apply Kd.qn | apply Kd.qm)); exact Kd.qF HO200.out (fun _ hk => trivial)⟩, ⟨by repeat (first | (with_reducible first | exact HI180.out | apply qi.alloc | apply qi.drewN | apply qi.drew | apply qi.set_0 | apply qi.set_1 | apply qi.set_2 | refine qi.far ?_ NB180_189.out _) | exact HI180.out)⟩, ⟨by repeat (first | (with_reducible first | exact HB.out | apply qf | apply qg | apply qe | refine qk ?_ (qi.ge HI180.out) | refine qk ?_ GE189.out) | exact HB.out)⟩⟩
          ·rw [if_neg c20] at H
           exact absurd H (by simp)
         ·rw [if_neg c17] at H
          have c17b0 : ((wrap64 (bt t185 0)) == 1) = false := beq_eq_false_iff_ne.mpr c17
          have c17b1 : ((wrap64 (bt t185 0)) != 1) = true := bne_iff_ne.mpr c17
          by_cases c31 : (wrap64 (bt t185 0)) = 2
          ·rw [if_pos c31] at H
           have c31b0 : ((wrap64 (bt t185 0)) == 2) = true := beq_iff_eq.mpr c31
           have c31b1 : ((wrap64 (bt t185 0)) != 2) = false := bne_eq_false_iff_eq.mpr c31
           clear c31
           replace H := Option.bind_eq_some_iff.mp H
           obtain ⟨⟨t201, t202, t203, t204⟩, A320, H⟩ := H
           try dsimp only at H
           have A32 := qb.mk A320
           clear A320
           replace H := Option.bind_eq_some_iff.mp H
           obtain ⟨⟨t205, t206, t207, t208⟩, A330, H⟩ := H
           try dsimp only at H
           have A33 := qb.mk A330
           clear A330
           by_cases c34 : x8_1.length < 3518437208883
           ·rw [if_pos c34] at H
            have LMc34 := qb.mk c34
            clear c34
            obtain ⟨y209, hy209⟩ : ∃ y_ : List (S43), y_ = (x8_1 ++ [(⟨wrap64 (bt t185 0), 0, 0, t205⟩ : S43)]) := ⟨_, rfl⟩
            replace H : (qQ.l0 kj6 a0 a1 y209 (wrap64 (x9_1 - 1)) t206 t207 t208) = some (r1, r2, r3) := by first | (rw [hy209]; with_reducible exact H) | (have H2_ := (Option.bind_some _ _).symm.trans H; rw [hy209]; with_reducible exact H2_) | (have H2_ := (Option.bind_some _ _).symm.trans H; with_reducible exact H2_) | with_reducible exact H | (rw [hy209]; exact H) | exact H
            have Ny209 := qb.mk hy209
            clear hy209
            have H' := qb.mk H
            clear H
            go_wp2_with (first | ((with_reducible refine qy (f := 73) rfl ?_); refine qz (some 29) rfl rfl Try.func73 (by kernel_rfl) rfl #[.pointer (some ⟨gb180, 0, none⟩), .int .i64 1] rfl (by (try simp only [List.map_toArray, List.map_cons, List.map_nil]); first | done | rfl | (simp only [List.length_drop, List.length_take]; rfl)) ?_; (with_reducible refine (qwb.calls gb180 x181000_1 x181001_1 x181002_1 1 t185 t186 t187 false w _ ?side1 ?side2 A11.out).mono ?_); (case side1 => repeat (first | (with_reducible first | exact HI180.out | apply qi.alloc | apply qi.drewN | apply qi.drew | apply qi.set_0 | apply qi.set_1 | apply qi.set_2) | exact HI180.out)); (case side2 => repeat (first | (with_reducible first | exact HB.out | apply qf | apply qg | apply qe | refine qk ?_ (qi.ge HI180.out)) | exact HB.out)); rintro e w35 ⟨rfl, hi, hb, hk⟩; refine ⟨_, rfl, ?_⟩; replace HO_8 := qb.mk (Kd.qF (Kd.qeb (qi.apart (show qi w _ gb180 x181000_1 x181001_1 x181002_1 from by repeat (first | (with_reducible first | exact HI180.out | apply qi.alloc | apply qi.drewN | apply qi.drew | apply qi.set_0 | apply qi.set_1 | apply qi.set_2) | exact HI180.out)) (by (with_reducible repeat (first | apply Kd.qo | apply Kd.qn | apply Kd.qm)); exact HO_8.out) (by decide)) hk (fun _ h => h.2)) (fun _ h => h.1)); replace HB := qb.mk (hb); replace HI180 := qb.mk (hi); (try clear hb); (try clear hb2); (try clear hk); (try clear hi); obtain ⟨HGz36, hgz36⟩ := HI180.out; have hcz36_0 := qsc HGz36; have hcz36_1 := qtc HGz36; have hcz36_2 := quc HGz36; have hfz36_0 := qp HGz36 0; have hfz36_1 := qp HGz36 1; have hfz36_2 := qp HGz36 2; clear HGz36 hgz36; have p16 : 0 ≤ (0 : Int) := (by omega); have q16 : 0 < t185.size := (by have : (0 : Int) < (t185.size : Int) := of_decide_eq_true (by first | (with_reducible assumption) | assumption); omega); have hx16 : ∀ h : 0 < t185.size, ((t185[0]'h).toNat : Int) = bt t185 0 := bt_at t185 0; clear p16; have qi16 : (0 < (t185.size : Int)) = True := eq_true (of_decide_eq_true (by first | (with_reducible assumption) | assumption)); replace q16 := eq_true q16) | ((with_reducible refine qcb (N := 11) rfl ?_); (try (refine qub (by rfl) ?_; dsimp only)); refine qpb ?hg (N := 11) ?hd (cs := #[.int .i64 0, .int .i64 0, .int .i64 0, .string (⟨#[]⟩ : ByteArray)]) (t := 43) ?hr ?_; (case hd => rfl); (case hg => rfl); (case hr => first | (go_simp; done) | (go_simp; rfl)); intro gb189 hg w37 hbox hb; have BK189 := qb.mk (hbox); have GW189 := qb.mk ((by rw [hg]; exact (qG (by repeat (first | (with_reducible first | exact HB.out | apply qf | apply qg | apply qe | refine qk ?_ (qi.ge HI180.out)) | exact HB.out))) : w.heap.size ≤ gb189)); have GE189 := qb.mk ((by rw [hg]; exact (qG (by repeat (first | (with_reducible first | exact HB.out | apply qf | apply qg | apply qe | refine qk ?_ (qi.ge HI180.out)) | exact HB.out))) : w.heap.size ≤ gb189)); have NB180_189 := qb.mk ((by rw [hg]; exact Nat.ne_of_lt (qi.lt (show qi w _ gb180 t186 t187 false from by repeat (first | (with_reducible first | exact HI180.out | apply qi.alloc | apply qi.drewN | apply qi.drew | apply qi.set_0 | apply qi.set_1 | apply qi.set_2) | exact HI180.out))) : gb180 ≠ gb189)); have NB189_180 := qb.mk ((by rw [hg]; exact Nat.ne_of_gt (qi.lt (show qi w _ gb180 t186 t187 false from by repeat (first | (with_reducible first | exact HI180.out | apply qi.alloc | apply qi.drewN | apply qi.drew | apply qi.set_0 | apply qi.set_1 | apply qi.set_2) | exact HI180.out))) : gb189 ≠ gb180)); replace HO_8 := qb.mk (Kd.qX (Kd.qqc (by (with_reducible repeat (first | apply Kd.qo | apply Kd.qn | apply Kd.qm)); exact HO_8.out) gb189 (Nat.le_of_eq hg.symm)) hb); replace HB := qb.mk (qE (by repeat (first | (with_reducible first | exact HB.out | apply qf | apply qg | apply qe | refine qk ?_ (qi.ge HI180.out)) | exact HB.out)) hb); replace HI180 := qb.mk (qi.below (by repeat (first | (with_reducible first | exact HI180.out | apply qi.alloc | apply qi.drewN | apply qi.drew | apply qi.set_0 | apply qi.set_1 | apply qi.set_2) | exact HI180.out)) hb); clear hb hbox hg; have hnb38 := NB189_180.out; have hnc38 := NB180_189.out; have hcz39_0 : w37.cell? ⟨gb189, 0, none⟩ = some (.int .i64 0) := (ql BK189.out 0).trans rfl; have hcz39_1 : w37.cell? ⟨gb189, 1, none⟩ = some (.int .i64 0) := (ql BK189.out 1).trans rfl; have hcz39_2 : w37.cell? ⟨gb189, 2, none⟩ = some (.int .i64 0) := (ql BK189.out 2).trans rfl; have hcz39_3 : w37.cell? ⟨gb189, 3, none⟩ = some (.string (⟨#[]⟩ : ByteArray)) := (ql BK189.out 3).trans rfl; have hfz39_0 := qp BK189.out 0; have hfz39_1 := qp BK189.out 1; have hfz39_2 := qp BK189.out 2; have hfz39_3 := qp BK189.out 3) | ((with_reducible refine qy (f := 72) rfl ?_); refine qz (some 56) rfl rfl Try.func72 (by kernel_rfl) rfl #[.pointer (some ⟨gb180, 0, none⟩)] rfl (by (try simp only [List.map_toArray, List.map_cons, List.map_nil]); first | done | rfl | (simp only [List.length_drop, List.length_take]; rfl)) ?_; (with_reducible refine (qTb.calls gb180 t186 t187 false t201 t202 t203 t204 w _ ?side1 ?side2 A32.out).mono ?_); (case side1 => repeat (first | (with_reducible first | exact HI180.out | apply qi.alloc | apply qi.drewN | apply qi.drew | apply qi.set_0 | apply qi.set_1 | apply qi.set_2 | refine qi.far ?_ NB180_189.out _) | exact HI180.out)); (case side2 => repeat (first | (with_reducible first | exact HB.out | apply qf | apply qg | apply qe | refine qk ?_ (qi.ge HI180.out) | refine qk ?_ GE189.out) | exact HB.out)); rintro e w40 ⟨rfl, hi, hb, hk⟩; refine ⟨_, rfl, ?_⟩; replace HO_8 := qb.mk (Kd.qF (Kd.qeb (qi.apart (show qi w _ gb180 t186 t187 false from by repeat (first | (with_reducible first | exact HI180.out | apply qi.alloc | apply qi.drewN | apply qi.drew | apply qi.set_0 | apply qi.set_1 | apply qi.set_2 | refine qi.far ?_ NB180_189.out _) | exact HI180.out)) (by (with_reducible repeat (first | apply Kd.qo | apply Kd.qn | apply Kd.qm)); exact (Kd.qF (Kd.R_far (p := ⟨gb189, 3, none⟩) (Kd.R_far (p := ⟨gb189, 2, none⟩) (Kd.R_far (p := ⟨gb189, 1, none⟩) (Kd.R_far (p := ⟨gb189, 0, none⟩) (Kd.qF HO_8.out (fun k_ hk => (⟨hk, hk.2⟩ : _ ∧ k_ ≠ gb189))) (fun _ hk => hk.2) (.int .i64 (wrap64 (bt t185 0)))) (fun _ hk => hk.2) (.int .i64 0)) (fun _ hk => hk.2) (.int .i64 0)) (fun _ hk => hk.2) (.string (⟨#[]⟩ : ByteArray))) (fun _ h_ => h_.1))) (by decide)) hk (fun _ h => h.2)) (fun _ h => h.1)); replace BK189 := qb.mk (qh.blk hk (g' := gb189) (o := .cells #[.int .i64 (wrap64 (bt t185 0)), .int .i64 0, .int .i64 0, .string (⟨#[]⟩ : ByteArray)] 43 (0, 0)) (by (with_reducible repeat (first | refine qB ?_ _ | refine qx ?_ | refine qC ?_ _)); refine qL (cs := #[.int .i64 (wrap64 (bt t185 0)), .int .i64 0, .int .i64 0, .string (⟨#[]⟩ : ByteArray)]) ?_ 3 _ rfl; (with_reducible repeat (first | refine qB ?_ _ | refine qx ?_ | refine qC ?_ _)); refine qL (cs := #[.int .i64 (wrap64 (bt t185 0)), .int .i64 0, .int .i64 0, .string (⟨#[]⟩ : ByteArray)]) ?_ 2 _ rfl; (with_reducible repeat (first | refine qB ?_ _ | refine qx ?_ | refine qC ?_ _)); refine qL (cs := #[.int .i64 (wrap64 (bt t185 0)), .int .i64 0, .int .i64 0, .string (⟨#[]⟩ : ByteArray)]) ?_ 1 _ rfl; (with_reducible repeat (first | refine qB ?_ _ | refine qx ?_ | refine qC ?_ _)); refine qL (cs := #[.int .i64 0, .int .i64 0, .int .i64 0, .string (⟨#[]⟩ : ByteArray)]) ?_ 0 _ rfl; (with_reducible repeat (first | refine qB ?_ _ | refine qx ?_ | refine qC ?_ _)); exact BK189.out) NB189_180.out (by simp)); replace HB := qb.mk (hb); replace HI180 := qb.mk (hi); (try clear hb); (try clear hb2); (try clear hk); (try clear hi)) | ((with_reducible refine qy (f := 73) rfl ?_); refine qz (some 57) rfl rfl Try.func73 (by kernel_rfl) rfl #[.pointer (some ⟨gb180, 0, none⟩), .int .i64 t201] rfl (by (try simp only [List.map_toArray, List.map_cons, List.map_nil]); first | done | rfl | (simp only [List.length_drop, List.length_take]; rfl)) ?_; (with_reducible refine (qwb.calls gb180 t202 t203 t204 t201 t205 t206 t207 t208 w _ ?side1 ?side2 A33.out).mono ?_); (case side1 => repeat (first | (with_reducible first | exact HI180.out | apply qi.alloc | apply qi.drewN | apply qi.drew | apply qi.set_0 | apply qi.set_1 | apply qi.set_2 | refine qi.far ?_ NB180_189.out _) | exact HI180.out)); (case side2 => repeat (first | (with_reducible first | exact HB.out | apply qf | apply qg | apply qe | refine qk ?_ (qi.ge HI180.out) | refine qk ?_ GE189.out) | exact HB.out)); rintro e w41 ⟨rfl, hi, hb, hk⟩; refine ⟨_, rfl, ?_⟩; replace HO_8 := qb.mk (Kd.qF (Kd.qeb (qi.apart (show qi w _ gb180 t202 t203 t204 from by repeat (first | (with_reducible first | exact HI180.out | apply qi.alloc | apply qi.drewN | apply qi.drew | apply qi.set_0 | apply qi.set_1 | apply qi.set_2 | refine qi.far ?_ NB180_189.out _) | exact HI180.out)) (by (with_reducible repeat (first | apply Kd.qo | apply Kd.qn | apply Kd.qm)); exact HO_8.out) (by decide)) hk (fun _ h => h.2)) (fun _ h => h.1)); replace BK189 := qb.mk (qh.blk hk (g' := gb189) (o := .cells #[.int .i64 (wrap64 (bt t185 0)), .int .i64 0, .int .i64 0, .string (⟨#[]⟩ : ByteArray)] 43 (0, 0)) (by (with_reducible repeat (first | refine qB ?_ _ | refine qx ?_ | refine qC ?_ _)); exact BK189.out) NB189_180.out (by simp)); replace HB := qb.mk (hb); replace HI180 := qb.mk (hi); (try clear hb); (try clear hb2); (try clear hk); (try clear hi); have hcz42_0 : w41.cell? ⟨gb189, 0, none⟩ = some (.int .i64 (wrap64 (bt t185 0))) := (ql BK189.out 0).trans rfl; have hcz42_1 : w41.cell? ⟨gb189, 1, none⟩ = some (.int .i64 0) := (ql BK189.out 1).trans rfl; have hcz42_2 : w41.cell? ⟨gb189, 2, none⟩ = some (.int .i64 0) := (ql BK189.out 2).trans rfl; have hcz42_3 : w41.cell? ⟨gb189, 3, none⟩ = some (.string (⟨#[]⟩ : ByteArray)) := (ql BK189.out 3).trans rfl; have hfz42_0 := qp BK189.out 0; have hfz42_1 := qp BK189.out 1; have hfz42_2 := qp BK189.out 2; have hfz42_3 := qp BK189.out 3) | ((with_reducible refine qhc (b := .append) (xs := #[.tmp 59, .tmp 61]) rfl ?_); (try (refine qub (by rfl) ?_; dsimp only)); at_builtin; refine Kd.qkc k43 (w0 := w) w.heap.size rfl (.tmp 59) (.tmp 61) 26 43 (.agg #[(.int .i64 0), (.int .i64 0), (.int .i64 0), (.string ⟨#[]⟩)]) 40 rfl Try.underlying26 info43 rfl (by decide) (by omega) u8 x8_1 (⟨wrap64 (bt t185 0), 0, 0, t205⟩ : S43) [.int .i64 (wrap64 (bt t185 0)), .int .i64 0, .int .i64 0, .string t205] (fun k_ => k_ ≠ gb189) (fun _ => False) rfl (by first | (go_simp; done) | (go_simp; rfl)) ?aP (fun _ hk => hk.elim) ?aF ?aO ?aB ?aS ?aL ?_; (case aP => exact qvb _ _ _ (⟨wrap64 (bt t185 0), 0, 0, t205⟩ : S43)); (case aB => exact (by repeat (first | (with_reducible first | exact HB.out | apply qf | apply qg | apply qe | refine qk ?_ (qi.ge HI180.out) | refine qk ?_ GE189.out) | exact HB.out))); (case aF => exact (fun k_ hk => Kd.freshB (g := gb189) (o := .cells #[.int .i64 (wrap64 (bt t185 0)), .int .i64 0, .int .i64 0, .string t205] 43 (0, 0)) (by (with_reducible repeat (first | refine qB ?_ _ | refine qx ?_ | refine qC ?_ _)); refine qL (cs := #[.int .i64 (wrap64 (bt t185 0)), .int .i64 0, .int .i64 0, .string (⟨#[]⟩ : ByteArray)]) ?_ 3 _ rfl; (with_reducible repeat (first | refine qB ?_ _ | refine qx ?_ | refine qC ?_ _)); exact BK189.out) k_ hk)); (case aO => exact (by (with_reducible repeat (first | apply Kd.qo | apply Kd.qn | apply Kd.qm)); exact Kd.qF (Kd.R_far (p := ⟨gb189, 3, none⟩) (Kd.qF HO_8.out (fun k_ hk => (⟨hk, hk.2⟩ : _ ∧ k_ ≠ gb189))) (fun _ hk => hk.2) (.string t205)) (fun _ hk => hk.1.2))); (case aS => exact (qG (by repeat (first | (with_reducible first | exact HB.out | apply qf | apply qg | apply qe | refine qk ?_ (qi.ge HI180.out) | refine qk ?_ GE189.out) | exact HB.out)))); (case aL => have := LMc34.out; omega); intro v210 w43 ho hb hg hat; rw [← Ny209.out] at ho; have HO211 := qb.mk (ho); replace HI180 := qb.mk (qi.grown (show qi w _ gb180 t206 t207 t208 from by repeat (first | (with_reducible first | exact HI180.out | apply qi.alloc | apply qi.drewN | apply qi.drew | apply qi.set_0 | apply qi.set_1 | apply qi.set_2 | refine qi.far ?_ NB180_189.out _) | exact HI180.out)) hg (qi.own_ne HI180.out HO_8.out (by decide))); replace BK189 := qb.mk (qJb (g := gb189) (o := .cells #[.int .i64 (wrap64 (bt t185 0)), .int .i64 0, .int .i64 0, .string t205] 43 (0, 0)) (by (with_reducible repeat (first | refine qB ?_ _ | refine qx ?_ | refine qC ?_ _)); refine qL (cs := #[.int .i64 (wrap64 (bt t185 0)), .int .i64 0, .int .i64 0, .string (⟨#[]⟩ : ByteArray)]) ?_ 3 _ rfl; (with_reducible repeat (first | refine qB ?_ _ | refine qx ?_ | refine qC ?_ _)); exact BK189.out) hg (Kd.qfc HO_8.out (fun _ hk => hk.2))); replace HB := qb.mk (hb); clear HO_8; clear ho hb hg hat))
            go_roundg kj6
            case measure => have := HK1.out; have := HJ6.out; omega
            case rel => exact ⟨(y209), (wrap64 (x9_1 - 1)), (t206), (t207), (t208), (by first | rfl | (simp; done) | (simp [*]; done)), H', ⟨by have := HK1.out; have := HJ6.out; omega⟩, ⟨by (with_reducible repeat (first | apply Kd.qo | apply Kd.qn | apply Kd.qm)); exact Kd.qF HO211.out (fun _ hk => trivial)⟩, ⟨by repeat (first | (with_reducible first | exact HI180.out | apply qi.alloc | apply qi.drewN | apply qi.drew | apply qi.set_0 | apply qi.set_1 | apply qi.set_2 | refine qi.far ?_ NB180_189.out _) | exact HI180.out)⟩, ⟨by repeat (first | (with_reducible first | exact HB.out | apply qf | apply qg | apply qe | refine qk ?_ (qi.ge HI180.out) | refine qk ?_ GE189.out) | exact HB.out)⟩⟩
           ·rw [if_neg c34] at H
            exact absurd H (by simp)
          ·rw [if_neg c31] at H
           have c31b0 : ((wrap64 (bt t185 0)) == 2) = false := beq_eq_false_iff_ne.mpr c31
           have c31b1 : ((wrap64 (bt t185 0)) != 2) = true := bne_iff_ne.mpr c31
           simp only [Option.some.injEq, Prod.mk.injEq] at H
           obtain ⟨rfl, rfl, rfl⟩ := H
           go_wp2_with (first | ((with_reducible refine qy (f := 73) rfl ?_); refine qz (some 29) rfl rfl Try.func73 (by kernel_rfl) rfl #[.pointer (some ⟨gb180, 0, none⟩), .int .i64 1] rfl (by (try simp only [List.map_toArray, List.map_cons, List.map_nil]); first | done | rfl | (simp only [List.length_drop, List.length_take]; rfl)) ?_; (with_reducible refine (qwb.calls gb180 x181000_1 x181001_1 x181002_1 1 t185 t186 t187 false w _ ?side1 ?side2 A11.out).mono ?_); (case side1 => repeat (first | (with_reducible first | exact HI180.out | apply qi.alloc | apply qi.drewN | apply qi.drew | apply qi.set_0 | apply qi.set_1 | apply qi.set_2) | exact HI180.out)); (case side2 => repeat (first | (with_reducible first | exact HB.out | apply qf | apply qg | apply qe | refine qk ?_ (qi.ge HI180.out)) | exact HB.out)); rintro e w44 ⟨rfl, hi, hb, hk⟩; refine ⟨_, rfl, ?_⟩; replace HO_8 := qb.mk (Kd.qF (Kd.qeb (qi.apart (show qi w _ gb180 x181000_1 x181001_1 x181002_1 from by repeat (first | (with_reducible first | exact HI180.out | apply qi.alloc | apply qi.drewN | apply qi.drew | apply qi.set_0 | apply qi.set_1 | apply qi.set_2) | exact HI180.out)) (by (with_reducible repeat (first | apply Kd.qo | apply Kd.qn | apply Kd.qm)); exact HO_8.out) (by decide)) hk (fun _ h => h.2)) (fun _ h => h.1)); replace HB := qb.mk (hb); replace HI180 := qb.mk (hi); (try clear hb); (try clear hb2); (try clear hk); (try clear hi); obtain ⟨HGz45, hgz45⟩ := HI180.out; have hcz45_0 := qsc HGz45; have hcz45_1 := qtc HGz45; have hcz45_2 := quc HGz45; have hfz45_0 := qp HGz45 0; have hfz45_1 := qp HGz45 1; have hfz45_2 := qp HGz45 2; clear HGz45 hgz45; have p16 : 0 ≤ (0 : Int) := (by omega); have q16 : 0 < t185.size := (by have : (0 : Int) < (t185.size : Int) := of_decide_eq_true (by first | (with_reducible assumption) | assumption); omega); have hx16 : ∀ h : 0 < t185.size, ((t185[0]'h).toNat : Int) = bt t185 0 := bt_at t185 0; clear p16; have qi16 : (0 < (t185.size : Int)) = True := eq_true (of_decide_eq_true (by first | (with_reducible assumption) | assumption)); replace q16 := eq_true q16) | ((with_reducible refine qcb (N := 11) rfl ?_); (try (refine qub (by rfl) ?_; dsimp only)); refine qpb ?hg (N := 11) ?hd (cs := #[.int .i64 0, .int .i64 0, .int .i64 0, .string (⟨#[]⟩ : ByteArray)]) (t := 43) ?hr ?_; (case hd => rfl); (case hg => rfl); (case hr => first | (go_simp; done) | (go_simp; rfl)); intro gb189 hg w46 hbox hb; have BK189 := qb.mk (hbox); have GW189 := qb.mk ((by rw [hg]; exact (qG (by repeat (first | (with_reducible first | exact HB.out | apply qf | apply qg | apply qe | refine qk ?_ (qi.ge HI180.out)) | exact HB.out))) : w.heap.size ≤ gb189)); have GE189 := qb.mk ((by rw [hg]; exact (qG (by repeat (first | (with_reducible first | exact HB.out | apply qf | apply qg | apply qe | refine qk ?_ (qi.ge HI180.out)) | exact HB.out))) : w.heap.size ≤ gb189)); have NB180_189 := qb.mk ((by rw [hg]; exact Nat.ne_of_lt (qi.lt (show qi w _ gb180 t186 t187 false from by repeat (first | (with_reducible first | exact HI180.out | apply qi.alloc | apply qi.drewN | apply qi.drew | apply qi.set_0 | apply qi.set_1 | apply qi.set_2) | exact HI180.out))) : gb180 ≠ gb189)); have NB189_180 := qb.mk ((by rw [hg]; exact Nat.ne_of_gt (qi.lt (show qi w _ gb180 t186 t187 false from by repeat (first | (with_reducible first | exact HI180.out | apply qi.alloc | apply qi.drewN | apply qi.drew | apply qi.set_0 | apply qi.set_1 | apply qi.set_2) | exact HI180.out))) : gb189 ≠ gb180)); replace HO_8 := qb.mk (Kd.qX (Kd.qqc (by (with_reducible repeat (first | apply Kd.qo | apply Kd.qn | apply Kd.qm)); exact HO_8.out) gb189 (Nat.le_of_eq hg.symm)) hb); replace HB := qb.mk (qE (by repeat (first | (with_reducible first | exact HB.out | apply qf | apply qg | apply qe | refine qk ?_ (qi.ge HI180.out)) | exact HB.out)) hb); replace HI180 := qb.mk (qi.below (by repeat (first | (with_reducible first | exact HI180.out | apply qi.alloc | apply qi.drewN | apply qi.drew | apply qi.set_0 | apply qi.set_1 | apply qi.set_2) | exact HI180.out)) hb); clear hb hbox hg; have hnb47 := NB189_180.out; have hnc47 := NB180_189.out; have hcz48_0 : w46.cell? ⟨gb189, 0, none⟩ = some (.int .i64 0) := (ql BK189.out 0).trans rfl; have hcz48_1 : w46.cell? ⟨gb189, 1, none⟩ = some (.int .i64 0) := (ql BK189.out 1).trans rfl; have hcz48_2 : w46.cell? ⟨gb189, 2, none⟩ = some (.int .i64 0) := (ql BK189.out 2).trans rfl; have hcz48_3 : w46.cell? ⟨gb189, 3, none⟩ = some (.string (⟨#[]⟩ : ByteArray)) := (ql BK189.out 3).trans rfl; have hfz48_0 := qp BK189.out 0; have hfz48_1 := qp BK189.out 1; have hfz48_2 := qp BK189.out 2; have hfz48_3 := qp BK189.out 3))
           go_ret3
           exact ⟨_, by first | rfl | (simp [qv, qu] <;> rfl) | (simp [*, qv, qu] <;> rfl), by first | exact Kd.R_nil _ _ _ _ _ | exact Kd.N_nil _ _ _ _ _ | exact Kd.V_nil _ _ _ _ _ | exact Kd.Q_nil _ _ _ _ _ | exact Kd.S_nil _ _ _ _ _, by repeat (first | (with_reducible first | exact HB.out | apply qf | apply qg | apply qe | refine qk ?_ (qi.ge HI180.out) | refine qk ?_ GE189.out) | exact HB.out)⟩
        ·rw [if_neg c15] at H
         exact absurd H (by simp)
      ·replace c10 := Bool.eq_false_iff.mpr c10
       subst c10
       rw [if_neg (show ¬ (false = true) by decide)] at H
       have H' := qb.mk H
       clear H
       go_wp2
       go_meet
       case rel => exact ⟨_, (x8_1), (x181000_1), (x181001_1), (x181002_1), H', ⟨by have := HK1.out; have := HJ6.out; first | omega | exact Nat.le_refl _⟩, ⟨by (with_reducible repeat (first | apply Kd.qo | apply Kd.qn | apply Kd.qm)); exact HO_8.out⟩, ⟨by repeat (first | (with_reducible first | exact HI180.out | apply qi.alloc | apply qi.drewN | apply qi.drew | apply qi.set_0 | apply qi.set_1 | apply qi.set_2) | exact HI180.out)⟩, ⟨by repeat (first | (with_reducible first | exact HB.out | apply qf | apply qg | apply qe | refine qk ?_ (qi.ge HI180.out)) | exact HB.out)⟩⟩
 case rest =>
  clear HC4
  try clear c1
  try clear p1
  try clear q1
  try clear hx1
  try clear qi1
  try clear c2
  try clear p2
  try clear c3
  try clear c4
  try clear p6
  try clear c7
  try clear c8
  try clear c8b0
  try clear c10
  try clear c12
  try clear c15
  try clear c15b0
  try clear c15b1
  try clear p16
  try clear q16
  try clear hx16
  try clear qi16
  try clear c17
  try clear c17b0
  try clear c17b1
  try clear c20
  try clear c24
  try clear c31
  try clear c31b0
  try clear c31b1
  try clear c34
  try clear c35
  try clear c38
  try clear c47
  try clear hcz14_0
  try clear hcz14_1
  try clear hcz14_2
  try clear hcz22_0
  try clear hcz22_1
  try clear hcz22_2
  try clear hcz25_0
  try clear hcz25_1
  try clear hcz25_2
  try clear hcz25_3
  try clear hcz27_0
  try clear hcz27_1
  try clear hcz27_2
  try clear hcz27_3
  try clear hcz29_0
  try clear hcz29_1
  try clear hcz29_2
  try clear hcz29_3
  try clear hcz36_0
  try clear hcz36_1
  try clear hcz36_2
  try clear hcz39_0
  try clear hcz39_1
  try clear hcz39_2
  try clear hcz39_3
  try clear hcz42_0
  try clear hcz42_1
  try clear hcz42_2
  try clear hcz42_3
  try clear hcz45_0
  try clear hcz45_1
  try clear hcz45_2
  try clear hcz48_0
  try clear hcz48_1
  try clear hcz48_2
  try clear hcz48_3
  try clear hcz9_0
  try clear hcz9_1
  try clear hcz9_2
  try clear hfz14_0
  try clear hfz14_1
  try clear hfz14_2
  try clear hfz22_0
  try clear hfz22_1
  try clear hfz22_2
  try clear hfz25_0
  try clear hfz25_1
  try clear hfz25_2
  try clear hfz25_3
  try clear hfz27_0
  try clear hfz27_1
  try clear hfz27_2
  try clear hfz27_3
  try clear hfz29_0
  try clear hfz29_1
  try clear hfz29_2
  try clear hfz29_3
  try clear hfz36_0
  try clear hfz36_1
  try clear hfz36_2
  try clear hfz39_0
  try clear hfz39_1
  try clear hfz39_2
  try clear hfz39_3
  try clear hfz42_0
  try clear hfz42_1
  try clear hfz42_2
  try clear hfz42_3
  try clear hfz45_0
  try clear hfz45_1
  try clear hfz45_2
  try clear hfz48_0
  try clear hfz48_1
  try clear hfz48_2
  try clear hfz48_3
  try clear hfz9_0
  try clear hfz9_1
  try clear hfz9_2
  try clear p16
  try clear p2
  try clear q16
  obtain ⟨kq, x8_3, x181000_3, x181001_3, x181002_3, HA, HJ3, HO_8, HI180, HB⟩ := hcut
  cases kq with
  | zero => exact absurd HA.out (by simp [qQ.j2])
  | succ kj3 =>
   have H := HA.out
   clear HA
   simp only [qQ.j2] at H
   have HC49 := qb.mk H
   clear H
   go_upto_region 18 with (fail)
   go_cut [75] (fun v75 wc => ∃ (kq : Nat) (x75_48 : Bool), v75 = .bool x75_48 ∧ qb (qQ.j3 kq a0 x8_3 x75_48 = some (r1, r2, r3)) ∧ qb (kq ≤ kj3) ∧ qb (Kd.R k43 43 wc w.heap.size (fun _ => True) u8 x8_3) ∧ qb (Below w.heap.size w wc))
   case first =>
    have H := HC49.out
    clear HC49
    by_cases c50 : x181002_3 = true
    ·subst c50
     rw [if_pos rfl] at H
     have H' := qb.mk H
     clear H
     obtain ⟨HGz51, hgz51⟩ := HI180.out
     have hcz51_0 := qsc HGz51
     have hcz51_1 := qtc HGz51
     have hcz51_2 := quc HGz51
     have hfz51_0 := qp HGz51 0
     have hfz51_1 := qp HGz51 1
     have hfz51_2 := qp HGz51 2
     clear HGz51 hgz51
     go_wp2
     go_meet
     case rel => exact ⟨_, (true), (by first | rfl | (simp; done) | (simp [*]; done)), H', ⟨by have := HJ3.out; first | omega | exact Nat.le_refl _⟩, ⟨by (with_reducible repeat (first | apply Kd.qo | apply Kd.qn | apply Kd.qm)); exact HO_8.out⟩, ⟨by repeat (first | (with_reducible first | exact HB.out | apply qf | apply qg | apply qe | refine qk ?_ (qi.ge HI180.out)) | exact HB.out)⟩⟩
    ·replace c50 := Bool.eq_false_iff.mpr c50
     subst c50
     rw [if_neg (show ¬ (false = true) by decide)] at H
     have H' := qb.mk H
     clear H
     obtain ⟨HGz52, hgz52⟩ := HI180.out
     have hcz52_0 := qsc HGz52
     have hcz52_1 := qtc HGz52
     have hcz52_2 := quc HGz52
     have hfz52_0 := qp HGz52 0
     have hfz52_1 := qp HGz52 1
     have hfz52_2 := qp HGz52 2
     clear HGz52 hgz52
     go_wp2
     go_meet
     case rel => exact ⟨_, (decide (x181001_3 < (a1.size : Int))), (by first | rfl | (simp; done) | (simp [*]; done)), H', ⟨by have := HJ3.out; first | omega | exact Nat.le_refl _⟩, ⟨by (with_reducible repeat (first | apply Kd.qo | apply Kd.qn | apply Kd.qm)); exact HO_8.out⟩, ⟨by repeat (first | (with_reducible first | exact HB.out | apply qf | apply qg | apply qe | refine qk ?_ (qi.ge HI180.out)) | exact HB.out)⟩⟩
   case rest =>
    clear HC49
    try clear c1
    try clear p1
    try clear q1
    try clear hx1
    try clear qi1
    try clear c2
    try clear p2
    try clear c3
    try clear c4
    try clear c5
    try clear p6
    try clear c7
    try clear c8
    try clear c8b0
    try clear c10
    try clear c12
    try clear c15
    try clear c15b0
    try clear c15b1
    try clear p16
    try clear q16
    try clear hx16
    try clear qi16
    try clear c17
    try clear c17b0
    try clear c17b1
    try clear c20
    try clear c24
    try clear c31
    try clear c31b0
    try clear c31b1
    try clear c34
    try clear c35
    try clear c38
    try clear c47
    try clear c50
    try clear hcz14_0
    try clear hcz14_1
    try clear hcz14_2
    try clear hcz22_0
    try clear hcz22_1
    try clear hcz22_2
    try clear hcz25_0
    try clear hcz25_1
    try clear hcz25_2
    try clear hcz25_3
    try clear hcz27_0
    try clear hcz27_1
    try clear hcz27_2
    try clear hcz27_3
    try clear hcz29_0
    try clear hcz29_1
    try clear hcz29_2
    try clear hcz29_3
    try clear hcz36_0
    try clear hcz36_1
    try clear hcz36_2
    try clear hcz39_0
    try clear hcz39_1
    try clear hcz39_2
    try clear hcz39_3
    try clear hcz42_0
    try clear hcz42_1
    try clear hcz42_2
    try clear hcz42_3
    try clear hcz45_0
    try clear hcz45_1
    try clear hcz45_2
    try clear hcz48_0
    try clear hcz48_1
    try clear hcz48_2
    try clear hcz48_3
    try clear hcz51_0
    try clear hcz51_1
    try clear hcz51_2
    try clear hcz52_0
    try clear hcz52_1
    try clear hcz52_2
    try clear hcz9_0
    try clear hcz9_1
    try clear hcz9_2
    try clear hfz14_0
    try clear hfz14_1
    try clear hfz14_2
    try clear hfz22_0
    try clear hfz22_1
    try clear hfz22_2
    try clear hfz25_0
    try clear hfz25_1
    try clear hfz25_2
    try clear hfz25_3
    try clear hfz27_0
    try clear hfz27_1
    try clear hfz27_2
    try clear hfz27_3
    try clear hfz29_0
    try clear hfz29_1
    try clear hfz29_2
    try clear hfz29_3
    try clear hfz36_0
    try clear hfz36_1
    try clear hfz36_2
    try clear hfz39_0
    try clear hfz39_1
    try clear hfz39_2
    try clear hfz39_3
    try clear hfz42_0
    try clear hfz42_1
    try clear hfz42_2
    try clear hfz42_3
    try clear hfz45_0
    try clear hfz45_1
    try clear hfz45_2
    try clear hfz48_0
    try clear hfz48_1
    try clear hfz48_2
    try clear hfz48_3
    try clear hfz51_0
    try clear hfz51_1
    try clear hfz51_2
    try clear hfz52_0
    try clear hfz52_1
    try clear hfz52_2
    try clear hfz9_0
    try clear hfz9_1
    try clear hfz9_2
    try clear p1
    try clear p16
    try clear p2
    try clear p6
    try clear q1
    try clear q16
    obtain ⟨kq, x75_48, rfl, HA, HJ48, HO_8, HB⟩ := hcut
    cases kq with
    | zero => exact absurd HA.out (by simp [qQ.j3])
    | succ kj48 =>
     have H := HA.out
     clear HA
     simp only [qQ.j3] at H
     by_cases c53 : x75_48 = true
     ·subst c53
      rw [if_pos rfl] at H
      simp only [Option.some.injEq, Prod.mk.injEq] at H
      obtain ⟨rfl, rfl, rfl⟩ := H
      go_wp2
      go_ret3
      exact ⟨_, by first | rfl | (simp [qv, qu] <;> rfl) | (simp [*, qv, qu] <;> rfl), by first | exact Kd.R_nil _ _ _ _ _ | exact Kd.N_nil _ _ _ _ _ | exact Kd.V_nil _ _ _ _ _ | exact Kd.Q_nil _ _ _ _ _ | exact Kd.S_nil _ _ _ _ _, by repeat (first | (with_reducible first | exact HB.out | apply qf | apply qg | apply qe) | exact HB.out)⟩
     ·replace c53 := Bool.eq_false_iff.mpr c53
      subst c53
      rw [if_neg (show ¬ (false = true) by decide)] at H
      replace H := Option.bind_eq_some_iff.mp H
      obtain ⟨t212, A540, H⟩ := H
      try dsimp only at H
      have A54 := qb.mk A540
      clear A540
      by_cases c55 : t212 = true
      ·subst c55
       rw [if_pos rfl] at H
       simp only [Option.some.injEq, Prod.mk.injEq] at H
       obtain ⟨rfl, rfl, rfl⟩ := H
       obtain ⟨Ao56, co56, eo56⟩ := Kd.qfb HO_8.out
       subst eo56
       go_wp2_with (first | ((with_reducible refine qy (f := 60) rfl ?_); refine qz (some 78) rfl rfl Try.func60 (by kernel_rfl) rfl #[.string a0, .slice Ao56 x8_3.length co56] rfl (by (try simp only [List.map_toArray, List.map_cons, List.map_nil]); first | done | rfl | (simp only [List.length_drop, List.length_take]; rfl)) ?_; (with_reducible refine (qdb.calls kj48 a0 _ _ x8_3 true _ ?side1 ?side2 A54.out).mono ?_); (case side1 => repeat (first | exact (Kd.qD HO_8.out).2.2 | (with_reducible refine Kd.qN ?_ _) | (with_reducible refine Kd.qM ?_ _) | (with_reducible refine Kd.qO ?_))); (case side2 => exact (Kd.qD HO_8.out).2.1); rintro e w57 ⟨rfl, hb⟩; refine ⟨_, rfl, ?_⟩; replace HO_8 := qb.mk (Kd.qX (by (with_reducible repeat (first | apply Kd.qo | apply Kd.qn | apply Kd.qm)); exact HO_8.out) hb); replace HB := qb.mk (qE (by repeat (first | (with_reducible first | exact HB.out | apply qf | apply qg | apply qe) | exact HB.out)) hb); (try clear hb); (try clear hb2); (try clear hk); (try clear hi)))
       go_ret3
       exact ⟨_, by first | rfl | (simp [qv, qu] <;> rfl) | (simp [*, qv, qu] <;> rfl), by (with_reducible repeat (first | apply Kd.qo | apply Kd.qn | apply Kd.qm)); exact HO_8.out, by repeat (first | (with_reducible first | exact HB.out | apply qf | apply qg | apply qe) | exact HB.out)⟩
      ·replace c55 := Bool.eq_false_iff.mpr c55
       subst c55
       rw [if_neg (show ¬ (false = true) by decide)] at H
       simp only [Option.some.injEq, Prod.mk.injEq] at H
       obtain ⟨rfl, rfl, rfl⟩ := H
       obtain ⟨Ao58, co58, eo58⟩ := Kd.qfb HO_8.out
       subst eo58
       go_wp2_with (first | ((with_reducible refine qy (f := 60) rfl ?_); refine qz (some 78) rfl rfl Try.func60 (by kernel_rfl) rfl #[.string a0, .slice Ao58 x8_3.length co58] rfl (by (try simp only [List.map_toArray, List.map_cons, List.map_nil]); first | done | rfl | (simp only [List.length_drop, List.length_take]; rfl)) ?_; (with_reducible refine (qdb.calls kj48 a0 _ _ x8_3 false _ ?side1 ?side2 A54.out).mono ?_); (case side1 => repeat (first | exact (Kd.qD HO_8.out).2.2 | (with_reducible refine Kd.qN ?_ _) | (with_reducible refine Kd.qM ?_ _) | (with_reducible refine Kd.qO ?_))); (case side2 => exact (Kd.qD HO_8.out).2.1); rintro e w59 ⟨rfl, hb⟩; refine ⟨_, rfl, ?_⟩; replace HO_8 := qb.mk (Kd.qX (by (with_reducible repeat (first | apply Kd.qo | apply Kd.qn | apply Kd.qm)); exact HO_8.out) hb); replace HB := qb.mk (qE (by repeat (first | (with_reducible first | exact HB.out | apply qf | apply qg | apply qe) | exact HB.out)) hb); (try clear hb); (try clear hb2); (try clear hk); (try clear hi)))
       go_ret3
       exact ⟨_, by first | rfl | (simp [qv, qu] <;> rfl) | (simp [*, qv, qu] <;> rfl), by first | exact Kd.R_nil _ _ _ _ _ | exact Kd.N_nil _ _ _ _ _ | exact Kd.V_nil _ _ _ _ _ | exact Kd.Q_nil _ _ _ _ _ | exact Kd.S_nil _ _ _ _ _, by repeat (first | (with_reducible first | exact HB.out | apply qf | apply qg | apply qe) | exact HB.out)⟩

end Go.Proofs.Ytnhnlfkbngnkpaa.E
