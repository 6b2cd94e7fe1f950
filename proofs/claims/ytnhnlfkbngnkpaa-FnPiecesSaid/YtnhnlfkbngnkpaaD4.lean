-- Made by a program of this session out of the translation; no hand has turned it.
import Derived.Test.YtnhnlfkbngnkpaaD0
import Derived.Test.YtnhnlfkbngnkpaaD2
import Derived.Test.YtnhnlfkbngnkpaaD3
namespace Go.Proofs.Ytnhnlfkbngnkpaa.D
open Go.RowKit Go.Proofs.YtnhnlfkbngnkpaaW.PrintWords Go.Proofs.YtnhnlfkbngnkpaaW.PrintLast Go.Proofs.YtnhnlfkbngnkpaaW.PrintMore
attribute [local go_sem] max2_int min2_int max_two min_two max_three min_three max_four min_four   -- for this text's walks alone
set_option linter.unusedVariables false
set_option linter.unusedSimpArgs false

/-! ### impl_done: function 61 -/
mutual
def impl_done.j0 : Nat → ByteArray → List (S43) → Bool → Option (ByteArray × Bool)
 | 0, _, _, _ => none
 | k + 1, x0, x1, x16 => if x16 = true then (some ((⟨#[]⟩ : ByteArray), false)) else (impl_done.l0 k x0 (⟨#[]⟩ : ByteArray) x1 (x1.length : Int) 0)
def impl_done.l0 : Nat → ByteArray → ByteArray → List (S43) → Int → Int → Option (ByteArray × Bool)
 | 0, _, _, _, _, _ => none
 | k + 1, x0, x6, x17, x18, x19 => if x19 < x18 then (if 0 ≤ x19 then (if x19 < (x17.length : Int) then (if ((rd_T43 x17 x19).f0) = 1 then (if ((rd_T43 x17 x19).f3).toList = ([] : List UInt8) then ((impl_in.f ((rd_T43 x17 x19).f1) 0 (wrap64 ((x0.size : Int) - 1))).bind fun t124 => (if t124 = true then ((impl_in.f ((rd_T43 x17 x19).f2) 1 (wrap64 ((x0.size : Int) - ((rd_T43 x17 x19).f1)))).bind fun t125 => (impl_done.j2 k x0 x6 x17 x18 x19 t125 ((rd_T43 x17 x19).f0) ((rd_T43 x17 x19).f1) ((rd_T43 x17 x19).f2) ((rd_T43 x17 x19).f3))) else (impl_done.j2 k x0 x6 x17 x18 x19 false ((rd_T43 x17 x19).f0) ((rd_T43 x17 x19).f1) ((rd_T43 x17 x19).f2) ((rd_T43 x17 x19).f3)))) else (impl_done.j2 k x0 x6 x17 x18 x19 false ((rd_T43 x17 x19).f0) ((rd_T43 x17 x19).f1) ((rd_T43 x17 x19).f2) ((rd_T43 x17 x19).f3))) else (impl_done.j2 k x0 x6 x17 x18 x19 false ((rd_T43 x17 x19).f0) ((rd_T43 x17 x19).f1) ((rd_T43 x17 x19).f2) ((rd_T43 x17 x19).f3))) else (none)) else (none)) else (some (x6, true))
def impl_done.j2 : Nat → ByteArray → ByteArray → List (S43) → Int → Int → Bool → Int → Int → Int → ByteArray → Option (ByteArray × Bool)
 | 0, _, _, _, _, _, _, _, _, _, _ => none
 | k + 1, x0, x6, x17, x18, x19, x23, x124000, x124001, x124002, x124003 => if x23 = true then (if 0 ≤ x124001 then (if x124001 ≤ (wrap64 (x124001 + x124002)) then (if (wrap64 (x124001 + x124002)) ≤ (x0.size : Int) then (if x6.size + (x0.extract (x124001 : Int).toNat ((wrap64 (x124001 + x124002)) : Int).toNat).size ≤ 9223372036854775807 then ((impl_isData.f (x6 ++ (x0.extract (x124001 : Int).toNat ((wrap64 (x124001 + x124002)) : Int).toNat))).bind fun t126 => (if t126 = true then (impl_done.l0 k x0 (x6 ++ (x0.extract (x124001 : Int).toNat ((wrap64 (x124001 + x124002)) : Int).toNat)) x17 x18 (wrap64 (x19 + 1))) else (some ((⟨#[]⟩ : ByteArray), false)))) else (none)) else (none)) else (none)) else (none)) else (if x124000 = 2 then (if x124001 = 0 then (if x124002 = 0 then ((impl_in.f (x124003.size : Int) 1 300).bind fun t127 => (impl_done.j3 k x0 x6 x17 x18 x19 t127 x124000 x124001 x124002 x124003)) else (impl_done.j3 k x0 x6 x17 x18 x19 false x124000 x124001 x124002 x124003)) else (impl_done.j3 k x0 x6 x17 x18 x19 false x124000 x124001 x124002 x124003)) else (impl_done.j3 k x0 x6 x17 x18 x19 false x124000 x124001 x124002 x124003))
def impl_done.j3 : Nat → ByteArray → ByteArray → List (S43) → Int → Int → Bool → Int → Int → Int → ByteArray → Option (ByteArray × Bool)
 | 0, _, _, _, _, _, _, _, _, _, _ => none
 | k + 1, x0, x6, x17, x18, x19, x61, x124000, x124001, x124002, x124003 => if x61 = true then (if x6.size + x124003.size ≤ 9223372036854775807 then ((impl_isData.f (x6 ++ x124003)).bind fun t128 => (if t128 = true then (impl_done.l0 k x0 (x6 ++ x124003) x17 x18 (wrap64 (x19 + 1))) else (some ((⟨#[]⟩ : ByteArray), false)))) else (none)) else (some ((⟨#[]⟩ : ByteArray), false))
end
def impl_done.f (k : Nat) (a0 : ByteArray) (l1 : List (S43)) : Option (ByteArray × Bool) := (impl_isData.f a0).bind fun t121 => (if t121 = true then (impl_done.j0 k a0 l1 (decide ((l1.length : Int) > 300))) else (impl_done.j0 k a0 l1 true))
theorem impl_done.mono_l : ∀ k, (∀ y0 y1 y2, LeO (impl_done.j0 k y0 y1 y2) (impl_done.j0 (k + 1) y0 y1 y2)) ∧ (∀ y0 y1 y2 y3 y4, LeO (impl_done.l0 k y0 y1 y2 y3 y4) (impl_done.l0 (k + 1) y0 y1 y2 y3 y4)) ∧ (∀ y0 y1 y2 y3 y4 y5 y6 y7 y8 y9, LeO (impl_done.j2 k y0 y1 y2 y3 y4 y5 y6 y7 y8 y9) (impl_done.j2 (k + 1) y0 y1 y2 y3 y4 y5 y6 y7 y8 y9)) ∧ (∀ y0 y1 y2 y3 y4 y5 y6 y7 y8 y9, LeO (impl_done.j3 k y0 y1 y2 y3 y4 y5 y6 y7 y8 y9) (impl_done.j3 (k + 1) y0 y1 y2 y3 y4 y5 y6 y7 y8 y9))
 | 0 => ⟨fun _ _ _ r h => by simp [impl_done.j0] at h, fun _ _ _ _ _ r h => by simp [impl_done.l0] at h, fun _ _ _ _ _ _ _ _ _ _ r h => by simp [impl_done.j2] at h, fun _ _ _ _ _ _ _ _ _ _ r h => by simp [impl_done.j3] at h⟩
 | k + 1 => by
  obtain ⟨ih0, ih1, ih2, ih3⟩ := impl_done.mono_l k
  refine ⟨?_, ?_, ?_, ?_⟩
  ·intro y0 y1 y2
   unfold impl_done.j0
   repeat' first
   | (with_reducible exact ih0 _ _ _)
   | (with_reducible exact ih1 _ _ _ _ _)
   | (with_reducible exact ih2 _ _ _ _ _ _ _ _ _ _)
   | (with_reducible exact ih3 _ _ _ _ _ _ _ _ _ _)
   | (with_reducible exact LeO.refl _)
   | (with_reducible exact LeO.none _)
   | (with_reducible refine LeO.ite ?_ ?_)
   | (with_reducible refine LeO.bind ?_ (fun _ => ?_))
   | exact ih0 _ _ _
   | exact ih1 _ _ _ _ _
   | exact ih2 _ _ _ _ _ _ _ _ _ _
   | exact ih3 _ _ _ _ _ _ _ _ _ _
   | exact LeO.none _
   | refine LeO.ite ?_ ?_
   | refine LeO.bind ?_ (fun _ => ?_)
  ·intro y0 y1 y2 y3 y4
   unfold impl_done.l0
   repeat' first
   | (with_reducible exact ih0 _ _ _)
   | (with_reducible exact ih1 _ _ _ _ _)
   | (with_reducible exact ih2 _ _ _ _ _ _ _ _ _ _)
   | (with_reducible exact ih3 _ _ _ _ _ _ _ _ _ _)
   | (with_reducible exact LeO.refl _)
   | (with_reducible exact LeO.none _)
   | (with_reducible refine LeO.ite ?_ ?_)
   | (with_reducible refine LeO.bind ?_ (fun _ => ?_))
   | exact ih0 _ _ _
   | exact ih1 _ _ _ _ _
   | exact ih2 _ _ _ _ _ _ _ _ _ _
   | exact ih3 _ _ _ _ _ _ _ _ _ _
   | exact LeO.none _
   | refine LeO.ite ?_ ?_
   | refine LeO.bind ?_ (fun _ => ?_)
  ·intro y0 y1 y2 y3 y4 y5 y6 y7 y8 y9
   unfold impl_done.j2
   repeat' first
   | (with_reducible exact ih0 _ _ _)
   | (with_reducible exact ih1 _ _ _ _ _)
   | (with_reducible exact ih2 _ _ _ _ _ _ _ _ _ _)
   | (with_reducible exact ih3 _ _ _ _ _ _ _ _ _ _)
   | (with_reducible exact LeO.refl _)
   | (with_reducible exact LeO.none _)
   | (with_reducible refine LeO.ite ?_ ?_)
   | (with_reducible refine LeO.bind ?_ (fun _ => ?_))
   | exact ih0 _ _ _
   | exact ih1 _ _ _ _ _
   | exact ih2 _ _ _ _ _ _ _ _ _ _
   | exact ih3 _ _ _ _ _ _ _ _ _ _
   | exact LeO.none _
   | refine LeO.ite ?_ ?_
   | refine LeO.bind ?_ (fun _ => ?_)
  ·intro y0 y1 y2 y3 y4 y5 y6 y7 y8 y9
   unfold impl_done.j3
   repeat' first
   | (with_reducible exact ih0 _ _ _)
   | (with_reducible exact ih1 _ _ _ _ _)
   | (with_reducible exact ih2 _ _ _ _ _ _ _ _ _ _)
   | (with_reducible exact ih3 _ _ _ _ _ _ _ _ _ _)
   | (with_reducible exact LeO.refl _)
   | (with_reducible exact LeO.none _)
   | (with_reducible refine LeO.ite ?_ ?_)
   | (with_reducible refine LeO.bind ?_ (fun _ => ?_))
   | exact ih0 _ _ _
   | exact ih1 _ _ _ _ _
   | exact ih2 _ _ _ _ _ _ _ _ _ _
   | exact ih3 _ _ _ _ _ _ _ _ _ _
   | exact LeO.none _
   | refine LeO.ite ?_ ?_
   | refine LeO.bind ?_ (fun _ => ?_)
theorem impl_done.mono : ∀ a0 a1 k, LeO (impl_done.f k a0 a1) (impl_done.f (k + 1) a0 a1) := by
 intro a0 a1 k
 obtain ⟨ih0, ih1, ih2, ih3⟩ := impl_done.mono_l k
 unfold impl_done.f
 repeat' first
   | (with_reducible exact ih0 _ _ _)
   | (with_reducible exact ih1 _ _ _ _ _)
   | (with_reducible exact ih2 _ _ _ _ _ _ _ _ _ _)
   | (with_reducible exact ih3 _ _ _ _ _ _ _ _ _ _)
   | (with_reducible exact LeO.refl _)
   | (with_reducible exact LeO.none _)
   | (with_reducible refine LeO.ite ?_ ?_)
   | (with_reducible refine LeO.bind ?_ (fun _ => ?_))
   | exact ih0 _ _ _
   | exact ih1 _ _ _ _ _
   | exact ih2 _ _ _ _ _ _ _ _ _ _
   | exact ih3 _ _ _ _ _ _ _ _ _ _
   | exact LeO.none _
   | refine LeO.ite ?_ ?_
   | refine LeO.bind ?_ (fun _ => ?_)
set_option maxHeartbeats 8000000 in
set_option maxRecDepth 100000 in
theorem impl_done.calls (k : Nat) (a0 : ByteArray) (A1 : Option Addr) (c1 : Nat) (l1 : List (S43)) (r1 : ByteArray) (r2 : Bool) (w : World) (hr1 : Kd.C k43 w A1 l1.length l1) (hc1 : l1.length ≤ c1) (h : impl_done.f k a0 l1 = some (r1, r2)) :
  Calls Try.prog 61 #[.string a0, .slice A1 l1.length c1] w fun e w' => e = .returned (.tuple #[.string r1, .bool r2]) ∧ Below w.heap.size w w' := by
 have hu43 := Try.underlying43
 have HR1 := Aside0.mk hr1
 have HC1 := Aside0.mk hc1
 clear hr1 hc1
 have HB := Aside0.mk (Below.refl w.heap.size w)
 have H : ((impl_isData.f a0).bind fun t121 => (if t121 = true then (impl_done.j0 k a0 l1 (decide ((l1.length : Int) > 300))) else (impl_done.j0 k a0 l1 true))) = some (r1, r2) := h
 clear h
 have HC3 := Aside0.mk H
 clear H
 go_enter Try.func61, Try.ntmps61
 go_upto_region 1 with (fail)
 go_cut [16] (fun v16 wc => ∃ (kq : Nat) (x16_2 : Bool), v16 = .bool x16_2 ∧ Aside0 (impl_done.j0 kq a0 l1 x16_2 = some (r1, r2)) ∧ Aside0 (kq ≤ k) ∧ Aside0 (Below w.heap.size w wc))
 case first =>
  have H := HC3.out
  clear HC3
  replace H := Option.bind_eq_some_iff.mp H
  obtain ⟨t121, A40, H⟩ := H
  replace H : (if t121 = true then (impl_done.j0 k a0 l1 (decide ((l1.length : Int) > 300))) else (impl_done.j0 k a0 l1 true)) = some (r1, r2) := H
  have A4 := Aside0.mk A40
  clear A40
  by_cases c5 : t121 = true
  ·subst c5
   have H1 : (impl_done.j0 k a0 l1 (decide ((l1.length : Int) > 300))) = some (r1, r2) := by rw [if_pos rfl] at H; exact H
   clear H
   have H := H1
   clear H1
   have H' := Aside0.mk H
   clear H
   go_wp2_with (first | ((with_reducible refine gate_callee (f := 67) rfl ?_); refine goesL_ (some 10) rfl rfl Try.func67 (by kernel_rfl) rfl #[.string a0] rfl (by (try simp only [List.map_toArray, List.map_cons, List.map_nil]); first | done | rfl | (simp only [List.length_drop, List.length_take]; rfl)) ?_; (with_reducible refine (impl_isData.calls a0 true _ A4.out).mono ?_); rintro e w' ⟨rfl, ⟨nd, rfl⟩⟩; refine ⟨_, rfl, ?_⟩))
   go_meet
   case rel => exact ⟨_, (decide ((l1.length : Int) > 300)), (by first | rfl | (simp; done) | (simp [*]; done)), H', ⟨by first | omega | exact Nat.le_refl _⟩, ⟨by repeat (first | (with_reducible first | exact HB.out | apply below_alloc | apply pw_below_drewN | apply below_drew1) | exact HB.out)⟩⟩
  ·replace c5 := Bool.eq_false_iff.mpr c5
   subst c5
   have H1 : (impl_done.j0 k a0 l1 true) = some (r1, r2) := by rw [if_neg (show ¬ (false = true) by decide)] at H; exact H
   clear H
   have H := H1
   clear H1
   have H' := Aside0.mk H
   clear H
   go_wp2_with (first | ((with_reducible refine gate_callee (f := 67) rfl ?_); refine goesL_ (some 10) rfl rfl Try.func67 (by kernel_rfl) rfl #[.string a0] rfl (by (try simp only [List.map_toArray, List.map_cons, List.map_nil]); first | done | rfl | (simp only [List.length_drop, List.length_take]; rfl)) ?_; (with_reducible refine (impl_isData.calls a0 false _ A4.out).mono ?_); rintro e w' ⟨rfl, ⟨nd, rfl⟩⟩; refine ⟨_, rfl, ?_⟩))
   go_meet
   case rel => exact ⟨_, (true), (by first | rfl | (simp; done) | (simp [*]; done)), H', ⟨by first | omega | exact Nat.le_refl _⟩, ⟨by repeat (first | (with_reducible first | exact HB.out | apply below_alloc | apply pw_below_drewN | apply below_drew1) | exact HB.out)⟩⟩
 case rest =>
  clear HC3
  try clear c1
  try clear p2
  try clear c5
  obtain ⟨kq, x16_2, rfl, HA, HJ2, HB⟩ := hcut
  cases kq with
  | zero => exact absurd HA.out (by simp [impl_done.j0])
  | succ kj2 =>
   have H := HA.out
   clear HA
   simp only [impl_done.j0] at H
   by_cases c6 : x16_2 = true
   ·subst c6
    have H1 : (some ((⟨#[]⟩ : ByteArray), false)) = some (r1, r2) := by rw [if_pos rfl] at H; exact H
    clear H
    have H := H1
    clear H1
    simp only [Option.some.injEq, Prod.mk.injEq] at H
    obtain ⟨rfl, rfl⟩ := H
    go_wp2
    go_ret2
    exact ⟨by first | rfl | (simp [errW_none, errW_some] <;> rfl) | (simp [*, errW_none, errW_some] <;> rfl), by repeat (first | (with_reducible first | exact HB.out | apply below_alloc | apply pw_below_drewN | apply below_drew1) | exact HB.out)⟩
   ·replace c6 := Bool.eq_false_iff.mpr c6
    subst c6
    have H1 : (impl_done.l0 kj2 a0 (⟨#[]⟩ : ByteArray) l1 (l1.length : Int) 0) = some (r1, r2) := by rw [if_neg (show ¬ (false = true) by decide)] at H; exact H
    clear H
    have H := H1
    clear H1
    have H' := Aside0.mk H
    clear H
    go_wp2
    go_loopg [6, 19] kj2 (fun kq v6 v19 w' => ∃ (x6_2 : ByteArray) (x19_2 : Int), v6 = .string x6_2 ∧ v19 = .int .i64 x19_2 ∧ Aside0 (impl_done.l0 kq a0 x6_2 l1 (l1.length : Int) x19_2 = some (r1, r2)) ∧ Aside0 (kq ≤ kj2) ∧ Aside0 (Below w.heap.size w w'))
    case atStart => exact ⟨((⟨#[]⟩ : ByteArray)), (0), (by first | rfl | (simp; done) | (simp [*]; done)), (by first | rfl | (simp; done) | (simp [*]; done)), H', ⟨Nat.le_refl _⟩, ⟨by repeat (first | (with_reducible first | exact HB.out | apply below_alloc | apply pw_below_drewN | apply below_drew1) | exact HB.out)⟩⟩
    case round =>
     clear H'
     try clear c1
     try clear p2
     try clear c5
     try clear c6
     try clear p2
     obtain ⟨x6_2, x19_2, rfl, rfl, HA, HK2, HB⟩ := hrel
     cases gk with
     | zero => exact absurd HA.out (by simp [impl_done.l0])
     | succ k2 =>
      have H := HA.out
      clear HA
      simp only [impl_done.l0] at H
      by_cases c7 : x19_2 < (l1.length : Int)
      ·rw [if_pos c7] at H
       have c7b0 : decide (x19_2 < (l1.length : Int)) = true := decide_eq_true c7
       clear c7
       by_cases c8 : 0 ≤ x19_2
       ·rw [if_pos c8] at H
        have c8b0 : decide (0 ≤ x19_2) = true := decide_eq_true c8
        clear c8
        by_cases c9 : x19_2 < (l1.length : Int)
        ·rw [if_pos c9] at H
         have c9b0 : decide (x19_2 < (l1.length : Int)) = true := decide_eq_true c9
         clear c9
         have HC10 := Aside0.mk H
         clear H
         have p122 : 0 ≤ (x19_2 : Int) := of_decide_eq_true (by first | (with_reducible assumption) | assumption)
         have q122 : x19_2 < (l1.length : Int) := of_decide_eq_true (by first | (with_reducible assumption) | assumption)
         obtain ⟨ad122, e122, hx122_0, hx122_1, hx122_2, hx122_3⟩ := at_T43 HR1.out x19_2 p122 q122
         cases e122
         replace hx122_0 := (HB.out.cell (World.block_lt_of_cell? w _ hx122_0)).trans hx122_0
         replace hx122_1 := (HB.out.cell (World.block_lt_of_cell? w _ hx122_1)).trans hx122_1
         replace hx122_2 := (HB.out.cell (World.block_lt_of_cell? w _ hx122_2)).trans hx122_2
         replace hx122_3 := (HB.out.cell (World.block_lt_of_cell? w _ hx122_3)).trans hx122_3
         replace p122 := eq_true p122
         replace q122 := eq_true q122
         go_upto_region 8 with (first | ((with_reducible refine gate_dst (N := 8) rfl ?_); (try (refine gate_guard (by rfl) ?_; dsimp only)); refine box_event ?hg (N := 8) ?hd (cs := #[.int .i64 0, .int .i64 0, .int .i64 0, .string (⟨#[]⟩ : ByteArray)]) (t := 43) ?hr ?_; (case hd => rfl); (case hg => rfl); (case hr => first | (go_simp; done) | (go_simp; rfl)); intro gb123 hg w11 hbox hb; have n0_ := Aside0.mk (below_step (by repeat (first | (with_reducible first | exact HB.out | apply below_alloc | apply pw_below_drewN | apply below_drew1) | exact HB.out)) hb); have n1_ := Aside0.mk (hbox); have n2_ := Aside0.mk ((by rw [hg]; exact (below_size (by repeat (first | (with_reducible first | exact HB.out | apply below_alloc | apply pw_below_drewN | apply below_drew1) | exact HB.out))) : w.heap.size ≤ gb123)); have n3_ := Aside0.mk ((by rw [hg]; exact (below_size (by repeat (first | (with_reducible first | exact HB.out | apply below_alloc | apply pw_below_drewN | apply below_drew1) | exact HB.out))) : w.heap.size ≤ gb123)); clear HB; have HB := n0_; have BK123 := n1_; have GW123 := n2_; have GE123 := n3_; clear n0_ n1_ n2_ n3_; clear hb hbox hg; have hcz12_0 : w11.cell? ⟨gb123, 0, none⟩ = some (.int .i64 0) := (blk_cell BK123.out 0).trans rfl; have hcz12_1 : w11.cell? ⟨gb123, 1, none⟩ = some (.int .i64 0) := (blk_cell BK123.out 1).trans rfl; have hcz12_2 : w11.cell? ⟨gb123, 2, none⟩ = some (.int .i64 0) := (blk_cell BK123.out 2).trans rfl; have hcz12_3 : w11.cell? ⟨gb123, 3, none⟩ = some (.string (⟨#[]⟩ : ByteArray)) := (blk_cell BK123.out 3).trans rfl; have hfz12_0 := blk_frozen BK123.out 0; have hfz12_1 := blk_frozen BK123.out 1; have hfz12_2 := blk_frozen BK123.out 2; have hfz12_3 := blk_frozen BK123.out 3))
         (try simp only [Act.put, List.setIfInBounds_toArray, List.set_cons_zero, List.set_cons_succ])
         go_cut [23] (fun v23 wc => ∃ (kq : Nat) (x23_9 : Bool), v23 = .bool x23_9 ∧ Aside0 (impl_done.j2 kq a0 x6_2 l1 (l1.length : Int) x19_2 x23_9 ((rd_T43 l1 x19_2).f0) ((rd_T43 l1 x19_2).f1) ((rd_T43 l1 x19_2).f2) ((rd_T43 l1 x19_2).f3) = some (r1, r2)) ∧ Aside0 (kq ≤ k2) ∧ Aside0 (wc.heap[gb123]? = some (.cells #[.int .i64 ((rd_T43 l1 x19_2).f0), .int .i64 ((rd_T43 l1 x19_2).f1), .int .i64 ((rd_T43 l1 x19_2).f2), .string ((rd_T43 l1 x19_2).f3)] 43 (0, 0))) ∧ Aside0 (Below w.heap.size w wc))
         case first =>
          have H := HC10.out
          clear HC10
          by_cases c13 : ((rd_T43 l1 x19_2).f0) = 1
          ·rw [if_pos c13] at H
           have c13b0 : (((rd_T43 l1 x19_2).f0) == 1) = true := beq_iff_eq.mpr c13
           have c13b1 : (((rd_T43 l1 x19_2).f0) != 1) = false := bne_eq_false_iff_eq.mpr c13
           clear c13
           (first | rw [c13b0] | (simp only [i64_w, i32_w]; rw [c13b0]) | skip)
           by_cases c14 : ((rd_T43 l1 x19_2).f3).toList = ([] : List UInt8)
           ·rw [if_pos c14] at H
            have c14b0 : (((rd_T43 l1 x19_2).f3).toList == ([] : List UInt8)) = true := beq_iff_eq.mpr c14
            have c14b1 : (((rd_T43 l1 x19_2).f3).toList != ([] : List UInt8)) = false := bne_eq_false_iff_eq.mpr c14
            clear c14
            replace H := Option.bind_eq_some_iff.mp H
            obtain ⟨t124, A150, H⟩ := H
            replace H : (if t124 = true then ((impl_in.f ((rd_T43 l1 x19_2).f2) 1 (wrap64 ((a0.size : Int) - ((rd_T43 l1 x19_2).f1)))).bind fun t125 => (impl_done.j2 k2 a0 x6_2 l1 (l1.length : Int) x19_2 t125 ((rd_T43 l1 x19_2).f0) ((rd_T43 l1 x19_2).f1) ((rd_T43 l1 x19_2).f2) ((rd_T43 l1 x19_2).f3))) else (impl_done.j2 k2 a0 x6_2 l1 (l1.length : Int) x19_2 false ((rd_T43 l1 x19_2).f0) ((rd_T43 l1 x19_2).f1) ((rd_T43 l1 x19_2).f2) ((rd_T43 l1 x19_2).f3))) = some (r1, r2) := H
            have A15 := Aside0.mk A150
            clear A150
            by_cases c16 : t124 = true
            ·subst c16
             have H1 : ((impl_in.f ((rd_T43 l1 x19_2).f2) 1 (wrap64 ((a0.size : Int) - ((rd_T43 l1 x19_2).f1)))).bind fun t125 => (impl_done.j2 k2 a0 x6_2 l1 (l1.length : Int) x19_2 t125 ((rd_T43 l1 x19_2).f0) ((rd_T43 l1 x19_2).f1) ((rd_T43 l1 x19_2).f2) ((rd_T43 l1 x19_2).f3))) = some (r1, r2) := by rw [if_pos rfl] at H; exact H
             clear H
             have H := H1
             clear H1
             replace H := Option.bind_eq_some_iff.mp H
             obtain ⟨t125, A170, H⟩ := H
             replace H : (impl_done.j2 k2 a0 x6_2 l1 (l1.length : Int) x19_2 t125 ((rd_T43 l1 x19_2).f0) ((rd_T43 l1 x19_2).f1) ((rd_T43 l1 x19_2).f2) ((rd_T43 l1 x19_2).f3)) = some (r1, r2) := H
             have A17 := Aside0.mk A170
             clear A170
             have H' := Aside0.mk H
             clear H
             have hcz18_0 : w11.cell? ⟨gb123, 0, none⟩ = some (.int .i64 0) := (blk_cell BK123.out 0).trans rfl
             have hcz18_1 : w11.cell? ⟨gb123, 1, none⟩ = some (.int .i64 0) := (blk_cell BK123.out 1).trans rfl
             have hcz18_2 : w11.cell? ⟨gb123, 2, none⟩ = some (.int .i64 0) := (blk_cell BK123.out 2).trans rfl
             have hcz18_3 : w11.cell? ⟨gb123, 3, none⟩ = some (.string (⟨#[]⟩ : ByteArray)) := (blk_cell BK123.out 3).trans rfl
             have hfz18_0 := blk_frozen BK123.out 0
             have hfz18_1 := blk_frozen BK123.out 1
             have hfz18_2 := blk_frozen BK123.out 2
             have hfz18_3 := blk_frozen BK123.out 3
             go_wp2_with (first | (go_at_call 58; (with_reducible refine (impl_in.calls ((rd_T43 l1 x19_2).f1) 0 (wrap64 ((a0.size : Int) - 1)) true _ A15.out).mono ?_); rintro e w' ⟨rfl, ⟨nd, rfl⟩⟩) | (go_at_call 58; (with_reducible refine (impl_in.calls ((rd_T43 l1 x19_2).f2) 1 (wrap64 ((a0.size : Int) - ((rd_T43 l1 x19_2).f1))) t125 _ A17.out).mono ?_); rintro e w' ⟨rfl, ⟨nd, rfl⟩⟩))
             go_meet
             case rel => exact ⟨_, (t125), (by first | rfl | (simp; done) | (simp [*]; done)), H', ⟨by have := HJ2.out; have := HK2.out; first | omega | exact Nat.le_refl _⟩, ⟨by (with_reducible repeat (first | refine blk_drewN ?_ _ | refine blk_drew ?_ | refine blk_alloc ?_ _)); refine blk_put (cs := #[.int .i64 ((rd_T43 l1 x19_2).f0), .int .i64 ((rd_T43 l1 x19_2).f1), .int .i64 ((rd_T43 l1 x19_2).f2), .string (⟨#[]⟩ : ByteArray)]) ?_ 3 _ rfl; (with_reducible repeat (first | refine blk_drewN ?_ _ | refine blk_drew ?_ | refine blk_alloc ?_ _)); refine blk_put (cs := #[.int .i64 ((rd_T43 l1 x19_2).f0), .int .i64 ((rd_T43 l1 x19_2).f1), .int .i64 0, .string (⟨#[]⟩ : ByteArray)]) ?_ 2 _ rfl; (with_reducible repeat (first | refine blk_drewN ?_ _ | refine blk_drew ?_ | refine blk_alloc ?_ _)); refine blk_put (cs := #[.int .i64 ((rd_T43 l1 x19_2).f0), .int .i64 0, .int .i64 0, .string (⟨#[]⟩ : ByteArray)]) ?_ 1 _ rfl; (with_reducible repeat (first | refine blk_drewN ?_ _ | refine blk_drew ?_ | refine blk_alloc ?_ _)); refine blk_put (cs := #[.int .i64 0, .int .i64 0, .int .i64 0, .string (⟨#[]⟩ : ByteArray)]) ?_ 0 _ rfl; (with_reducible repeat (first | refine blk_drewN ?_ _ | refine blk_drew ?_ | refine blk_alloc ?_ _)); exact BK123.out⟩, ⟨by repeat (first | (with_reducible first | exact HB.out | apply below_alloc | apply pw_below_drewN | apply below_drew1 | refine below_set ?_ GE123.out) | exact HB.out)⟩⟩
            ·replace c16 := Bool.eq_false_iff.mpr c16
             subst c16
             have H1 : (impl_done.j2 k2 a0 x6_2 l1 (l1.length : Int) x19_2 false ((rd_T43 l1 x19_2).f0) ((rd_T43 l1 x19_2).f1) ((rd_T43 l1 x19_2).f2) ((rd_T43 l1 x19_2).f3)) = some (r1, r2) := by rw [if_neg (show ¬ (false = true) by decide)] at H; exact H
             clear H
             have H := H1
             clear H1
             have H' := Aside0.mk H
             clear H
             have hcz19_0 : w11.cell? ⟨gb123, 0, none⟩ = some (.int .i64 0) := (blk_cell BK123.out 0).trans rfl
             have hcz19_1 : w11.cell? ⟨gb123, 1, none⟩ = some (.int .i64 0) := (blk_cell BK123.out 1).trans rfl
             have hcz19_2 : w11.cell? ⟨gb123, 2, none⟩ = some (.int .i64 0) := (blk_cell BK123.out 2).trans rfl
             have hcz19_3 : w11.cell? ⟨gb123, 3, none⟩ = some (.string (⟨#[]⟩ : ByteArray)) := (blk_cell BK123.out 3).trans rfl
             have hfz19_0 := blk_frozen BK123.out 0
             have hfz19_1 := blk_frozen BK123.out 1
             have hfz19_2 := blk_frozen BK123.out 2
             have hfz19_3 := blk_frozen BK123.out 3
             go_wp2_with (first | (go_at_call 58; (with_reducible refine (impl_in.calls ((rd_T43 l1 x19_2).f1) 0 (wrap64 ((a0.size : Int) - 1)) false _ A15.out).mono ?_); rintro e w' ⟨rfl, ⟨nd, rfl⟩⟩))
             go_meet
             case rel => exact ⟨_, (false), (by first | rfl | (simp; done) | (simp [*]; done)), H', ⟨by have := HJ2.out; have := HK2.out; first | omega | exact Nat.le_refl _⟩, ⟨by (with_reducible repeat (first | refine blk_drewN ?_ _ | refine blk_drew ?_ | refine blk_alloc ?_ _)); refine blk_put (cs := #[.int .i64 ((rd_T43 l1 x19_2).f0), .int .i64 ((rd_T43 l1 x19_2).f1), .int .i64 ((rd_T43 l1 x19_2).f2), .string (⟨#[]⟩ : ByteArray)]) ?_ 3 _ rfl; (with_reducible repeat (first | refine blk_drewN ?_ _ | refine blk_drew ?_ | refine blk_alloc ?_ _)); refine blk_put (cs := #[.int .i64 ((rd_T43 l1 x19_2).f0), .int .i64 ((rd_T43 l1 x19_2).f1), .int .i64 0, .string (⟨#[]⟩ : ByteArray)]) ?_ 2 _ rfl; (with_reducible repeat (first | refine blk_drewN ?_ _ | refine blk_drew ?_ | refine blk_alloc ?_ _)); refine blk_put (cs := #[.int .i64 ((rd_T43 l1 x19_2).f0), .int .i64 0, .int .i64 0, .string (⟨#[]⟩ : ByteArray)]) ?_ 1 _ rfl; (with_reducible repeat (first | refine blk_drewN ?_ _ | refine blk_drew ?_ | refine blk_alloc ?_ _)); refine blk_put (cs := #[.int .i64 0, .int .i64 0, .int .i64 0, .string (⟨#[]⟩ : ByteArray)]) ?_ 0 _ rfl; (with_reducible repeat (first | refine blk_drewN ?_ _ | refine blk_drew ?_ | refine blk_alloc ?_ _)); exact BK123.out⟩, ⟨by repeat (first | (with_reducible first | exact HB.out | apply below_alloc | apply pw_below_drewN | apply below_drew1 | refine below_set ?_ GE123.out) | exact HB.out)⟩⟩
           ·rw [if_neg c14] at H
            have c14b0 : (((rd_T43 l1 x19_2).f3).toList == ([] : List UInt8)) = false := beq_eq_false_iff_ne.mpr c14
            have c14b1 : (((rd_T43 l1 x19_2).f3).toList != ([] : List UInt8)) = true := bne_iff_ne.mpr c14
            have H' := Aside0.mk H
            clear H
            have hcz20_0 : w11.cell? ⟨gb123, 0, none⟩ = some (.int .i64 0) := (blk_cell BK123.out 0).trans rfl
            have hcz20_1 : w11.cell? ⟨gb123, 1, none⟩ = some (.int .i64 0) := (blk_cell BK123.out 1).trans rfl
            have hcz20_2 : w11.cell? ⟨gb123, 2, none⟩ = some (.int .i64 0) := (blk_cell BK123.out 2).trans rfl
            have hcz20_3 : w11.cell? ⟨gb123, 3, none⟩ = some (.string (⟨#[]⟩ : ByteArray)) := (blk_cell BK123.out 3).trans rfl
            have hfz20_0 := blk_frozen BK123.out 0
            have hfz20_1 := blk_frozen BK123.out 1
            have hfz20_2 := blk_frozen BK123.out 2
            have hfz20_3 := blk_frozen BK123.out 3
            go_wp2
            go_meet
            case rel => exact ⟨_, (false), (by first | rfl | (simp; done) | (simp [*]; done)), H', ⟨by have := HJ2.out; have := HK2.out; first | omega | exact Nat.le_refl _⟩, ⟨by (with_reducible repeat (first | refine blk_drewN ?_ _ | refine blk_drew ?_ | refine blk_alloc ?_ _)); refine blk_put (cs := #[.int .i64 ((rd_T43 l1 x19_2).f0), .int .i64 ((rd_T43 l1 x19_2).f1), .int .i64 ((rd_T43 l1 x19_2).f2), .string (⟨#[]⟩ : ByteArray)]) ?_ 3 _ rfl; (with_reducible repeat (first | refine blk_drewN ?_ _ | refine blk_drew ?_ | refine blk_alloc ?_ _)); refine blk_put (cs := #[.int .i64 ((rd_T43 l1 x19_2).f0), .int .i64 ((rd_T43 l1 x19_2).f1), .int .i64 0, .string (⟨#[]⟩ : ByteArray)]) ?_ 2 _ rfl; (with_reducible repeat (first | refine blk_drewN ?_ _ | refine blk_drew ?_ | refine blk_alloc ?_ _)); refine blk_put (cs := #[.int .i64 ((rd_T43 l1 x19_2).f0), .int .i64 0, .int .i64 0, .string (⟨#[]⟩ : ByteArray)]) ?_ 1 _ rfl; (with_reducible repeat (first | refine blk_drewN ?_ _ | refine blk_drew ?_ | refine blk_alloc ?_ _)); refine blk_put (cs := #[.int .i64 0, .int .i64 0, .int .i64 0, .string (⟨#[]⟩ : ByteArray)]) ?_ 0 _ rfl; (with_reducible repeat (first | refine blk_drewN ?_ _ | refine blk_drew ?_ | refine blk_alloc ?_ _)); exact BK123.out⟩, ⟨by repeat (first | (with_reducible first | exact HB.out | apply below_alloc | apply pw_below_drewN | apply below_drew1 | refine below_set ?_ GE123.out) | exact HB.out)⟩⟩
          ·rw [if_neg c13] at H
           have c13b0 : (((rd_T43 l1 x19_2).f0) == 1) = false := beq_eq_false_iff_ne.mpr c13
           have c13b1 : (((rd_T43 l1 x19_2).f0) != 1) = true := bne_iff_ne.mpr c13
           (first | rw [c13b0] | (simp only [i64_w, i32_w]; rw [c13b0]) | skip)
           have H' := Aside0.mk H
           clear H
           have hcz21_0 : w11.cell? ⟨gb123, 0, none⟩ = some (.int .i64 0) := (blk_cell BK123.out 0).trans rfl
           have hcz21_1 : w11.cell? ⟨gb123, 1, none⟩ = some (.int .i64 0) := (blk_cell BK123.out 1).trans rfl
           have hcz21_2 : w11.cell? ⟨gb123, 2, none⟩ = some (.int .i64 0) := (blk_cell BK123.out 2).trans rfl
           have hcz21_3 : w11.cell? ⟨gb123, 3, none⟩ = some (.string (⟨#[]⟩ : ByteArray)) := (blk_cell BK123.out 3).trans rfl
           have hfz21_0 := blk_frozen BK123.out 0
           have hfz21_1 := blk_frozen BK123.out 1
           have hfz21_2 := blk_frozen BK123.out 2
           have hfz21_3 := blk_frozen BK123.out 3
           go_wp2
           go_meet
           case rel => exact ⟨_, (false), (by first | rfl | (simp; done) | (simp [*]; done)), H', ⟨by have := HJ2.out; have := HK2.out; first | omega | exact Nat.le_refl _⟩, ⟨by (with_reducible repeat (first | refine blk_drewN ?_ _ | refine blk_drew ?_ | refine blk_alloc ?_ _)); refine blk_put (cs := #[.int .i64 ((rd_T43 l1 x19_2).f0), .int .i64 ((rd_T43 l1 x19_2).f1), .int .i64 ((rd_T43 l1 x19_2).f2), .string (⟨#[]⟩ : ByteArray)]) ?_ 3 _ rfl; (with_reducible repeat (first | refine blk_drewN ?_ _ | refine blk_drew ?_ | refine blk_alloc ?_ _)); refine blk_put (cs := #[.int .i64 ((rd_T43 l1 x19_2).f0), .int .i64 ((rd_T43 l1 x19_2).f1), .int .i64 0, .string (⟨#[]⟩ : ByteArray)]) ?_ 2 _ rfl; (with_reducible repeat (first | refine blk_drewN ?_ _ | refine blk_drew ?_ | refine blk_alloc ?_ _)); refine blk_put (cs := #[.int .i64 ((rd_T43 l1 x19_2).f0), .int .i64 0, .int .i64 0, .string (⟨#[]⟩ : ByteArray)]) ?_ 1 _ rfl; (with_reducible repeat (first | refine blk_drewN ?_ _ | refine blk_drew ?_ | refine blk_alloc ?_ _)); refine blk_put (cs := #[.int .i64 0, .int .i64 0, .int .i64 0, .string (⟨#[]⟩ : ByteArray)]) ?_ 0 _ rfl; (with_reducible repeat (first | refine blk_drewN ?_ _ | refine blk_drew ?_ | refine blk_alloc ?_ _)); exact BK123.out⟩, ⟨by repeat (first | (with_reducible first | exact HB.out | apply below_alloc | apply pw_below_drewN | apply below_drew1 | refine below_set ?_ GE123.out) | exact HB.out)⟩⟩
         case rest =>
          clear HC10
          try clear c1
          try clear p1
          try clear q1
          try clear hx1
          try clear p2
          try clear c5
          try clear c6
          try clear p6
          try clear c7
          try clear c7b0
          try clear c8
          try clear c8b0
          try clear c9
          try clear c9b0
          try clear p12
          try clear q12
          try clear hx12
          try clear c13
          try clear c13b0
          try clear c13b1
          try clear c14
          try clear c14b0
          try clear c14b1
          try clear c16
          try clear hcz12_0
          try clear hcz12_1
          try clear hcz12_2
          try clear hcz12_3
          try clear hcz18_0
          try clear hcz18_1
          try clear hcz18_2
          try clear hcz18_3
          try clear hcz19_0
          try clear hcz19_1
          try clear hcz19_2
          try clear hcz19_3
          try clear hcz20_0
          try clear hcz20_1
          try clear hcz20_2
          try clear hcz20_3
          try clear hcz21_0
          try clear hcz21_1
          try clear hcz21_2
          try clear hcz21_3
          try clear hfz12_0
          try clear hfz12_1
          try clear hfz12_2
          try clear hfz12_3
          try clear hfz18_0
          try clear hfz18_1
          try clear hfz18_2
          try clear hfz18_3
          try clear hfz19_0
          try clear hfz19_1
          try clear hfz19_2
          try clear hfz19_3
          try clear hfz20_0
          try clear hfz20_1
          try clear hfz20_2
          try clear hfz20_3
          try clear hfz21_0
          try clear hfz21_1
          try clear hfz21_2
          try clear hfz21_3
          try clear hx122_0
          try clear hx122_1
          try clear hx122_2
          try clear hx122_3
          try clear p122
          try clear p2
          try clear q122
          obtain ⟨kq, x23_9, rfl, HA, HJ9, BK123, HB⟩ := hcut
          cases kq with
          | zero => exact absurd HA.out (by simp [impl_done.j2])
          | succ kj9 =>
           have H := HA.out
           clear HA
           simp only [impl_done.j2] at H
           by_cases c22 : x23_9 = true
           ·subst c22
            have H1 : (if 0 ≤ ((rd_T43 l1 x19_2).f1) then (if ((rd_T43 l1 x19_2).f1) ≤ (wrap64 (((rd_T43 l1 x19_2).f1) + ((rd_T43 l1 x19_2).f2))) then (if (wrap64 (((rd_T43 l1 x19_2).f1) + ((rd_T43 l1 x19_2).f2))) ≤ (a0.size : Int) then (if x6_2.size + (a0.extract (((rd_T43 l1 x19_2).f1) : Int).toNat ((wrap64 (((rd_T43 l1 x19_2).f1) + ((rd_T43 l1 x19_2).f2))) : Int).toNat).size ≤ 9223372036854775807 then ((impl_isData.f (x6_2 ++ (a0.extract (((rd_T43 l1 x19_2).f1) : Int).toNat ((wrap64 (((rd_T43 l1 x19_2).f1) + ((rd_T43 l1 x19_2).f2))) : Int).toNat))).bind fun t126 => (if t126 = true then (impl_done.l0 kj9 a0 (x6_2 ++ (a0.extract (((rd_T43 l1 x19_2).f1) : Int).toNat ((wrap64 (((rd_T43 l1 x19_2).f1) + ((rd_T43 l1 x19_2).f2))) : Int).toNat)) l1 (l1.length : Int) (wrap64 (x19_2 + 1))) else (some ((⟨#[]⟩ : ByteArray), false)))) else (none)) else (none)) else (none)) else (none)) = some (r1, r2) := by rw [if_pos rfl] at H; exact H
            clear H
            have H := H1
            clear H1
            by_cases c23 : 0 ≤ ((rd_T43 l1 x19_2).f1)
            ·rw [if_pos c23] at H
             have c23b0 := eq_true c23
             have c23b1 : decide (0 ≤ ((rd_T43 l1 x19_2).f1)) = true := decide_eq_true c23
             clear c23
             by_cases c24 : ((rd_T43 l1 x19_2).f1) ≤ (wrap64 (((rd_T43 l1 x19_2).f1) + ((rd_T43 l1 x19_2).f2)))
             ·rw [if_pos c24] at H
              have c24b0 := eq_true c24
              have c24b1 : decide (((rd_T43 l1 x19_2).f1) ≤ (wrap64 (((rd_T43 l1 x19_2).f1) + ((rd_T43 l1 x19_2).f2)))) = true := decide_eq_true c24
              by_cases c25 : (wrap64 (((rd_T43 l1 x19_2).f1) + ((rd_T43 l1 x19_2).f2))) ≤ (a0.size : Int)
              ·rw [if_pos c25] at H
               have c25b0 := eq_true c25
               have c25b1 : decide ((wrap64 (((rd_T43 l1 x19_2).f1) + ((rd_T43 l1 x19_2).f2))) ≤ (a0.size : Int)) = true := decide_eq_true c25
               by_cases c26 : x6_2.size + (a0.extract (((rd_T43 l1 x19_2).f1) : Int).toNat ((wrap64 (((rd_T43 l1 x19_2).f1) + ((rd_T43 l1 x19_2).f2))) : Int).toNat).size ≤ 9223372036854775807
               ·rw [if_pos c26] at H
                have c26b0 := eq_true c26
                have c26b1 : decide (x6_2.size + (a0.extract (((rd_T43 l1 x19_2).f1) : Int).toNat ((wrap64 (((rd_T43 l1 x19_2).f1) + ((rd_T43 l1 x19_2).f2))) : Int).toNat).size ≤ 9223372036854775807) = true := decide_eq_true c26
                try have c26b2 : (9223372036854775807 < x6_2.size + (a0.extract (((rd_T43 l1 x19_2).f1) : Int).toNat ((wrap64 (((rd_T43 l1 x19_2).f1) + ((rd_T43 l1 x19_2).f2))) : Int).toNat).size) = False := eq_false (Nat.not_lt.2 c26)
                have c26b3 : ∀ m_ n_ : Nat, m_ = x6_2.size → n_ = (a0.extract (((rd_T43 l1 x19_2).f1) : Int).toNat ((wrap64 (((rd_T43 l1 x19_2).f1) + ((rd_T43 l1 x19_2).f2))) : Int).toNat).size → (9223372036854775807 < m_ + n_) = False := fun m_ n_ h1_ h2_ => by rw [h1_, h2_]; exact eq_false (Nat.not_lt.2 c26)
                replace H := Option.bind_eq_some_iff.mp H
                obtain ⟨t126, A270, H⟩ := H
                replace H : (if t126 = true then (impl_done.l0 kj9 a0 (x6_2 ++ (a0.extract (((rd_T43 l1 x19_2).f1) : Int).toNat ((wrap64 (((rd_T43 l1 x19_2).f1) + ((rd_T43 l1 x19_2).f2))) : Int).toNat)) l1 (l1.length : Int) (wrap64 (x19_2 + 1))) else (some ((⟨#[]⟩ : ByteArray), false))) = some (r1, r2) := H
                have A27 := Aside0.mk A270
                clear A270
                by_cases c28 : t126 = true
                ·subst c28
                 have H1 : (impl_done.l0 kj9 a0 (x6_2 ++ (a0.extract (((rd_T43 l1 x19_2).f1) : Int).toNat ((wrap64 (((rd_T43 l1 x19_2).f1) + ((rd_T43 l1 x19_2).f2))) : Int).toNat)) l1 (l1.length : Int) (wrap64 (x19_2 + 1))) = some (r1, r2) := by rw [if_pos rfl] at H; exact H
                 clear H
                 have H := H1
                 clear H1
                 have H' := Aside0.mk H
                 clear H
                 have hcz29_0 : wc.cell? ⟨gb123, 0, none⟩ = some (.int .i64 ((rd_T43 l1 x19_2).f0)) := (blk_cell BK123.out 0).trans rfl
                 have hcz29_1 : wc.cell? ⟨gb123, 1, none⟩ = some (.int .i64 ((rd_T43 l1 x19_2).f1)) := (blk_cell BK123.out 1).trans rfl
                 have hcz29_2 : wc.cell? ⟨gb123, 2, none⟩ = some (.int .i64 ((rd_T43 l1 x19_2).f2)) := (blk_cell BK123.out 2).trans rfl
                 have hcz29_3 : wc.cell? ⟨gb123, 3, none⟩ = some (.string ((rd_T43 l1 x19_2).f3)) := (blk_cell BK123.out 3).trans rfl
                 have hfz29_0 := blk_frozen BK123.out 0
                 have hfz29_1 := blk_frozen BK123.out 1
                 have hfz29_2 := blk_frozen BK123.out 2
                 have hfz29_3 := blk_frozen BK123.out 3
                 go_wp2_with (first | ((with_reducible refine gate_callee (f := 67) rfl ?_); refine goesL_ (some 86) rfl rfl Try.func67 (by kernel_rfl) rfl #[.string (x6_2 ++ (a0.extract (((rd_T43 l1 x19_2).f1) : Int).toNat ((wrap64 (((rd_T43 l1 x19_2).f1) + ((rd_T43 l1 x19_2).f2))) : Int).toNat))] rfl (by (try simp only [List.map_toArray, List.map_cons, List.map_nil]); first | done | rfl | (simp only [List.length_drop, List.length_take]; rfl)) ?_; (with_reducible refine (impl_isData.calls (x6_2 ++ (a0.extract (((rd_T43 l1 x19_2).f1) : Int).toNat ((wrap64 (((rd_T43 l1 x19_2).f1) + ((rd_T43 l1 x19_2).f2))) : Int).toNat)) true _ A27.out).mono ?_); rintro e w' ⟨rfl, ⟨nd, rfl⟩⟩; refine ⟨_, rfl, ?_⟩))
                 go_roundg kj9
                 case measure => have := HJ2.out; have := HK2.out; have := HJ9.out; omega
                 case rel => exact ⟨(x6_2 ++ (a0.extract (((rd_T43 l1 x19_2).f1) : Int).toNat ((wrap64 (((rd_T43 l1 x19_2).f1) + ((rd_T43 l1 x19_2).f2))) : Int).toNat)), (wrap64 (x19_2 + 1)), (by first | rfl | (simp; done) | (simp [*]; done)), (by first | rfl | (simp; done) | (simp [*]; done)), H', ⟨by have := HJ2.out; have := HK2.out; have := HJ9.out; omega⟩, ⟨by repeat (first | (with_reducible first | exact HB.out | apply below_alloc | apply pw_below_drewN | apply below_drew1 | refine below_set ?_ GE123.out) | exact HB.out)⟩⟩
                ·replace c28 := Bool.eq_false_iff.mpr c28
                 subst c28
                 have H1 : (some ((⟨#[]⟩ : ByteArray), false)) = some (r1, r2) := by rw [if_neg (show ¬ (false = true) by decide)] at H; exact H
                 clear H
                 have H := H1
                 clear H1
                 simp only [Option.some.injEq, Prod.mk.injEq] at H
                 obtain ⟨rfl, rfl⟩ := H
                 have hcz30_0 : wc.cell? ⟨gb123, 0, none⟩ = some (.int .i64 ((rd_T43 l1 x19_2).f0)) := (blk_cell BK123.out 0).trans rfl
                 have hcz30_1 : wc.cell? ⟨gb123, 1, none⟩ = some (.int .i64 ((rd_T43 l1 x19_2).f1)) := (blk_cell BK123.out 1).trans rfl
                 have hcz30_2 : wc.cell? ⟨gb123, 2, none⟩ = some (.int .i64 ((rd_T43 l1 x19_2).f2)) := (blk_cell BK123.out 2).trans rfl
                 have hcz30_3 : wc.cell? ⟨gb123, 3, none⟩ = some (.string ((rd_T43 l1 x19_2).f3)) := (blk_cell BK123.out 3).trans rfl
                 have hfz30_0 := blk_frozen BK123.out 0
                 have hfz30_1 := blk_frozen BK123.out 1
                 have hfz30_2 := blk_frozen BK123.out 2
                 have hfz30_3 := blk_frozen BK123.out 3
                 go_wp2_with (first | ((with_reducible refine gate_callee (f := 67) rfl ?_); refine goesL_ (some 86) rfl rfl Try.func67 (by kernel_rfl) rfl #[.string (x6_2 ++ (a0.extract (((rd_T43 l1 x19_2).f1) : Int).toNat ((wrap64 (((rd_T43 l1 x19_2).f1) + ((rd_T43 l1 x19_2).f2))) : Int).toNat))] rfl (by (try simp only [List.map_toArray, List.map_cons, List.map_nil]); first | done | rfl | (simp only [List.length_drop, List.length_take]; rfl)) ?_; (with_reducible refine (impl_isData.calls (x6_2 ++ (a0.extract (((rd_T43 l1 x19_2).f1) : Int).toNat ((wrap64 (((rd_T43 l1 x19_2).f1) + ((rd_T43 l1 x19_2).f2))) : Int).toNat)) false _ A27.out).mono ?_); rintro e w' ⟨rfl, ⟨nd, rfl⟩⟩; refine ⟨_, rfl, ?_⟩))
                 go_ret2
                 exact ⟨by first | rfl | (simp [errW_none, errW_some] <;> rfl) | (simp [*, errW_none, errW_some] <;> rfl), by repeat (first | (with_reducible first | exact HB.out | apply below_alloc | apply pw_below_drewN | apply below_drew1 | refine below_set ?_ GE123.out) | exact HB.out)⟩
               ·rw [if_neg c26] at H
                exact absurd H (by simp)
              ·rw [if_neg c25] at H
               exact absurd H (by simp)
             ·rw [if_neg c24] at H
              exact absurd H (by simp)
            ·rw [if_neg c23] at H
             exact absurd H (by simp)
           ·replace c22 := Bool.eq_false_iff.mpr c22
            subst c22
            have H1 : (if ((rd_T43 l1 x19_2).f0) = 2 then (if ((rd_T43 l1 x19_2).f1) = 0 then (if ((rd_T43 l1 x19_2).f2) = 0 then ((impl_in.f (((rd_T43 l1 x19_2).f3).size : Int) 1 300).bind fun t127 => (impl_done.j3 kj9 a0 x6_2 l1 (l1.length : Int) x19_2 t127 ((rd_T43 l1 x19_2).f0) ((rd_T43 l1 x19_2).f1) ((rd_T43 l1 x19_2).f2) ((rd_T43 l1 x19_2).f3))) else (impl_done.j3 kj9 a0 x6_2 l1 (l1.length : Int) x19_2 false ((rd_T43 l1 x19_2).f0) ((rd_T43 l1 x19_2).f1) ((rd_T43 l1 x19_2).f2) ((rd_T43 l1 x19_2).f3))) else (impl_done.j3 kj9 a0 x6_2 l1 (l1.length : Int) x19_2 false ((rd_T43 l1 x19_2).f0) ((rd_T43 l1 x19_2).f1) ((rd_T43 l1 x19_2).f2) ((rd_T43 l1 x19_2).f3))) else (impl_done.j3 kj9 a0 x6_2 l1 (l1.length : Int) x19_2 false ((rd_T43 l1 x19_2).f0) ((rd_T43 l1 x19_2).f1) ((rd_T43 l1 x19_2).f2) ((rd_T43 l1 x19_2).f3))) = some (r1, r2) := by rw [if_neg (show ¬ (false = true) by decide)] at H; exact H
            clear H
            have H := H1
            clear H1
            have HC31 := Aside0.mk H
            clear H
            go_upto_region 10 with (fail)
            go_cut [61] (fun v61 wc => ∃ (kq : Nat) (x61_30 : Bool), v61 = .bool x61_30 ∧ Aside0 (impl_done.j3 kq a0 x6_2 l1 (l1.length : Int) x19_2 x61_30 ((rd_T43 l1 x19_2).f0) ((rd_T43 l1 x19_2).f1) ((rd_T43 l1 x19_2).f2) ((rd_T43 l1 x19_2).f3) = some (r1, r2)) ∧ Aside0 (kq ≤ kj9) ∧ Aside0 (wc.heap[gb123]? = some (.cells #[.int .i64 ((rd_T43 l1 x19_2).f0), .int .i64 ((rd_T43 l1 x19_2).f1), .int .i64 ((rd_T43 l1 x19_2).f2), .string ((rd_T43 l1 x19_2).f3)] 43 (0, 0))) ∧ Aside0 (Below w.heap.size w wc))
            case first =>
             have H := HC31.out
             clear HC31
             by_cases c32 : ((rd_T43 l1 x19_2).f0) = 2
             ·rw [if_pos c32] at H
              have c32b0 : (((rd_T43 l1 x19_2).f0) == 2) = true := beq_iff_eq.mpr c32
              have c32b1 : (((rd_T43 l1 x19_2).f0) != 2) = false := bne_eq_false_iff_eq.mpr c32
              clear c32
              (first | rw [c32b0] | (simp only [i64_w, i32_w]; rw [c32b0]) | skip)
              by_cases c33 : ((rd_T43 l1 x19_2).f1) = 0
              ·rw [if_pos c33] at H
               have c33b0 : (((rd_T43 l1 x19_2).f1) == 0) = true := beq_iff_eq.mpr c33
               have c33b1 : (((rd_T43 l1 x19_2).f1) != 0) = false := bne_eq_false_iff_eq.mpr c33
               clear c33
               by_cases c34 : ((rd_T43 l1 x19_2).f2) = 0
               ·rw [if_pos c34] at H
                have c34b0 : (((rd_T43 l1 x19_2).f2) == 0) = true := beq_iff_eq.mpr c34
                have c34b1 : (((rd_T43 l1 x19_2).f2) != 0) = false := bne_eq_false_iff_eq.mpr c34
                clear c34
                replace H := Option.bind_eq_some_iff.mp H
                obtain ⟨t127, A350, H⟩ := H
                replace H : (impl_done.j3 kj9 a0 x6_2 l1 (l1.length : Int) x19_2 t127 ((rd_T43 l1 x19_2).f0) ((rd_T43 l1 x19_2).f1) ((rd_T43 l1 x19_2).f2) ((rd_T43 l1 x19_2).f3)) = some (r1, r2) := H
                have A35 := Aside0.mk A350
                clear A350
                have H' := Aside0.mk H
                clear H
                have hcz36_0 : wc.cell? ⟨gb123, 0, none⟩ = some (.int .i64 ((rd_T43 l1 x19_2).f0)) := (blk_cell BK123.out 0).trans rfl
                have hcz36_1 : wc.cell? ⟨gb123, 1, none⟩ = some (.int .i64 ((rd_T43 l1 x19_2).f1)) := (blk_cell BK123.out 1).trans rfl
                have hcz36_2 : wc.cell? ⟨gb123, 2, none⟩ = some (.int .i64 ((rd_T43 l1 x19_2).f2)) := (blk_cell BK123.out 2).trans rfl
                have hcz36_3 : wc.cell? ⟨gb123, 3, none⟩ = some (.string ((rd_T43 l1 x19_2).f3)) := (blk_cell BK123.out 3).trans rfl
                have hfz36_0 := blk_frozen BK123.out 0
                have hfz36_1 := blk_frozen BK123.out 1
                have hfz36_2 := blk_frozen BK123.out 2
                have hfz36_3 := blk_frozen BK123.out 3
                go_wp2_with (first | (go_at_call 58; (with_reducible refine (impl_in.calls (((rd_T43 l1 x19_2).f3).size : Int) 1 300 t127 _ A35.out).mono ?_); rintro e w' ⟨rfl, ⟨nd, rfl⟩⟩))
                go_meet
                case rel => exact ⟨_, (t127), (by first | rfl | (simp; done) | (simp [*]; done)), H', ⟨by have := HJ2.out; have := HK2.out; have := HJ9.out; first | omega | exact Nat.le_refl _⟩, ⟨by (with_reducible repeat (first | refine blk_drewN ?_ _ | refine blk_drew ?_ | refine blk_alloc ?_ _)); exact BK123.out⟩, ⟨by repeat (first | (with_reducible first | exact HB.out | apply below_alloc | apply pw_below_drewN | apply below_drew1 | refine below_set ?_ GE123.out) | exact HB.out)⟩⟩
               ·rw [if_neg c34] at H
                have c34b0 : (((rd_T43 l1 x19_2).f2) == 0) = false := beq_eq_false_iff_ne.mpr c34
                have c34b1 : (((rd_T43 l1 x19_2).f2) != 0) = true := bne_iff_ne.mpr c34
                have H' := Aside0.mk H
                clear H
                have hcz37_0 : wc.cell? ⟨gb123, 0, none⟩ = some (.int .i64 ((rd_T43 l1 x19_2).f0)) := (blk_cell BK123.out 0).trans rfl
                have hcz37_1 : wc.cell? ⟨gb123, 1, none⟩ = some (.int .i64 ((rd_T43 l1 x19_2).f1)) := (blk_cell BK123.out 1).trans rfl
                have hcz37_2 : wc.cell? ⟨gb123, 2, none⟩ = some (.int .i64 ((rd_T43 l1 x19_2).f2)) := (blk_cell BK123.out 2).trans rfl
                have hcz37_3 : wc.cell? ⟨gb123, 3, none⟩ = some (.string ((rd_T43 l1 x19_2).f3)) := (blk_cell BK123.out 3).trans rfl
                have hfz37_0 := blk_frozen BK123.out 0
                have hfz37_1 := blk_frozen BK123.out 1
                have hfz37_2 := blk_frozen BK123.out 2
                have hfz37_3 := blk_frozen BK123.out 3
                go_wp2
                go_meet
                case rel => exact ⟨_, (false), (by first | rfl | (simp; done) | (simp [*]; done)), H', ⟨by have := HJ2.out; have := HK2.out; have := HJ9.out; first | omega | exact Nat.le_refl _⟩, ⟨by (with_reducible repeat (first | refine blk_drewN ?_ _ | refine blk_drew ?_ | refine blk_alloc ?_ _)); exact BK123.out⟩, ⟨by repeat (first | (with_reducible first | exact HB.out | apply below_alloc | apply pw_below_drewN | apply below_drew1 | refine below_set ?_ GE123.out) | exact HB.out)⟩⟩
              ·rw [if_neg c33] at H
               have c33b0 : (((rd_T43 l1 x19_2).f1) == 0) = false := beq_eq_false_iff_ne.mpr c33
               have c33b1 : (((rd_T43 l1 x19_2).f1) != 0) = true := bne_iff_ne.mpr c33
               have H' := Aside0.mk H
               clear H
               have hcz38_0 : wc.cell? ⟨gb123, 0, none⟩ = some (.int .i64 ((rd_T43 l1 x19_2).f0)) := (blk_cell BK123.out 0).trans rfl
               have hcz38_1 : wc.cell? ⟨gb123, 1, none⟩ = some (.int .i64 ((rd_T43 l1 x19_2).f1)) := (blk_cell BK123.out 1).trans rfl
               have hcz38_2 : wc.cell? ⟨gb123, 2, none⟩ = some (.int .i64 ((rd_T43 l1 x19_2).f2)) := (blk_cell BK123.out 2).trans rfl
               have hcz38_3 : wc.cell? ⟨gb123, 3, none⟩ = some (.string ((rd_T43 l1 x19_2).f3)) := (blk_cell BK123.out 3).trans rfl
               have hfz38_0 := blk_frozen BK123.out 0
               have hfz38_1 := blk_frozen BK123.out 1
               have hfz38_2 := blk_frozen BK123.out 2
               have hfz38_3 := blk_frozen BK123.out 3
               go_wp2
               go_meet
               case rel => exact ⟨_, (false), (by first | rfl | (simp; done) | (simp [*]; done)), H', ⟨by have := HJ2.out; have := HK2.out; have := HJ9.out; first | omega | exact Nat.le_refl _⟩, ⟨by (with_reducible repeat (first | refine blk_drewN ?_ _ | refine blk_drew ?_ | refine blk_alloc ?_ _)); exact BK123.out⟩, ⟨by repeat (first | (with_reducible first | exact HB.out | apply below_alloc | apply pw_below_drewN | apply below_drew1 | refine below_set ?_ GE123.out) | exact HB.out)⟩⟩
             ·rw [if_neg c32] at H
              have c32b0 : (((rd_T43 l1 x19_2).f0) == 2) = false := beq_eq_false_iff_ne.mpr c32
              have c32b1 : (((rd_T43 l1 x19_2).f0) != 2) = true := bne_iff_ne.mpr c32
              (first | rw [c32b0] | (simp only [i64_w, i32_w]; rw [c32b0]) | skip)
              have H' := Aside0.mk H
              clear H
              have hcz39_0 : wc.cell? ⟨gb123, 0, none⟩ = some (.int .i64 ((rd_T43 l1 x19_2).f0)) := (blk_cell BK123.out 0).trans rfl
              have hcz39_1 : wc.cell? ⟨gb123, 1, none⟩ = some (.int .i64 ((rd_T43 l1 x19_2).f1)) := (blk_cell BK123.out 1).trans rfl
              have hcz39_2 : wc.cell? ⟨gb123, 2, none⟩ = some (.int .i64 ((rd_T43 l1 x19_2).f2)) := (blk_cell BK123.out 2).trans rfl
              have hcz39_3 : wc.cell? ⟨gb123, 3, none⟩ = some (.string ((rd_T43 l1 x19_2).f3)) := (blk_cell BK123.out 3).trans rfl
              have hfz39_0 := blk_frozen BK123.out 0
              have hfz39_1 := blk_frozen BK123.out 1
              have hfz39_2 := blk_frozen BK123.out 2
              have hfz39_3 := blk_frozen BK123.out 3
              go_wp2
              go_meet
              case rel => exact ⟨_, (false), (by first | rfl | (simp; done) | (simp [*]; done)), H', ⟨by have := HJ2.out; have := HK2.out; have := HJ9.out; first | omega | exact Nat.le_refl _⟩, ⟨by (with_reducible repeat (first | refine blk_drewN ?_ _ | refine blk_drew ?_ | refine blk_alloc ?_ _)); exact BK123.out⟩, ⟨by repeat (first | (with_reducible first | exact HB.out | apply below_alloc | apply pw_below_drewN | apply below_drew1 | refine below_set ?_ GE123.out) | exact HB.out)⟩⟩
            case rest =>
             clear HC31
             try clear c1
             try clear p1
             try clear q1
             try clear hx1
             try clear c2
             try clear p2
             try clear c3
             try clear c5
             try clear c6
             try clear p6
             try clear c7
             try clear c7b0
             try clear c8
             try clear c8b0
             try clear c9
             try clear c9b0
             try clear p12
             try clear q12
             try clear hx12
             try clear c13
             try clear c13b0
             try clear c13b1
             try clear c14
             try clear c14b0
             try clear c14b1
             try clear c16
             try clear c22
             try clear c23
             try clear c23b0
             try clear c23b1
             try clear c24
             try clear c24b0
             try clear c24b1
             try clear c25
             try clear c25b0
             try clear c25b1
             try clear c26
             try clear c26b0
             try clear c26b1
             try clear c26b2
             try clear c28
             try clear c32
             try clear c32b0
             try clear c32b1
             try clear c33
             try clear c33b0
             try clear c33b1
             try clear c34
             try clear c34b0
             try clear c34b1
             try clear hcz12_0
             try clear hcz12_1
             try clear hcz12_2
             try clear hcz12_3
             try clear hcz18_0
             try clear hcz18_1
             try clear hcz18_2
             try clear hcz18_3
             try clear hcz19_0
             try clear hcz19_1
             try clear hcz19_2
             try clear hcz19_3
             try clear hcz20_0
             try clear hcz20_1
             try clear hcz20_2
             try clear hcz20_3
             try clear hcz21_0
             try clear hcz21_1
             try clear hcz21_2
             try clear hcz21_3
             try clear hcz29_0
             try clear hcz29_1
             try clear hcz29_2
             try clear hcz29_3
             try clear hcz30_0
             try clear hcz30_1
             try clear hcz30_2
             try clear hcz30_3
             try clear hcz36_0
             try clear hcz36_1
             try clear hcz36_2
             try clear hcz36_3
             try clear hcz37_0
             try clear hcz37_1
             try clear hcz37_2
             try clear hcz37_3
             try clear hcz38_0
             try clear hcz38_1
             try clear hcz38_2
             try clear hcz38_3
             try clear hcz39_0
             try clear hcz39_1
             try clear hcz39_2
             try clear hcz39_3
             try clear hfz12_0
             try clear hfz12_1
             try clear hfz12_2
             try clear hfz12_3
             try clear hfz18_0
             try clear hfz18_1
             try clear hfz18_2
             try clear hfz18_3
             try clear hfz19_0
             try clear hfz19_1
             try clear hfz19_2
             try clear hfz19_3
             try clear hfz20_0
             try clear hfz20_1
             try clear hfz20_2
             try clear hfz20_3
             try clear hfz21_0
             try clear hfz21_1
             try clear hfz21_2
             try clear hfz21_3
             try clear hfz29_0
             try clear hfz29_1
             try clear hfz29_2
             try clear hfz29_3
             try clear hfz30_0
             try clear hfz30_1
             try clear hfz30_2
             try clear hfz30_3
             try clear hfz36_0
             try clear hfz36_1
             try clear hfz36_2
             try clear hfz36_3
             try clear hfz37_0
             try clear hfz37_1
             try clear hfz37_2
             try clear hfz37_3
             try clear hfz38_0
             try clear hfz38_1
             try clear hfz38_2
             try clear hfz38_3
             try clear hfz39_0
             try clear hfz39_1
             try clear hfz39_2
             try clear hfz39_3
             try clear hx122_0
             try clear hx122_1
             try clear hx122_2
             try clear hx122_3
             try clear p1
             try clear p12
             try clear p122
             try clear p2
             try clear p6
             try clear q1
             try clear q12
             try clear q122
             obtain ⟨kq, x61_30, rfl, HA, HJ30, BK123, HB⟩ := hcut
             cases kq with
             | zero => exact absurd HA.out (by simp [impl_done.j3])
             | succ kj30 =>
              have H := HA.out
              clear HA
              simp only [impl_done.j3] at H
              by_cases c40 : x61_30 = true
              ·subst c40
               have H1 : (if x6_2.size + ((rd_T43 l1 x19_2).f3).size ≤ 9223372036854775807 then ((impl_isData.f (x6_2 ++ ((rd_T43 l1 x19_2).f3))).bind fun t128 => (if t128 = true then (impl_done.l0 kj30 a0 (x6_2 ++ ((rd_T43 l1 x19_2).f3)) l1 (l1.length : Int) (wrap64 (x19_2 + 1))) else (some ((⟨#[]⟩ : ByteArray), false)))) else (none)) = some (r1, r2) := by rw [if_pos rfl] at H; exact H
               clear H
               have H := H1
               clear H1
               by_cases c41 : x6_2.size + ((rd_T43 l1 x19_2).f3).size ≤ 9223372036854775807
               ·rw [if_pos c41] at H
                have c41b0 := eq_true c41
                have c41b1 : decide (x6_2.size + ((rd_T43 l1 x19_2).f3).size ≤ 9223372036854775807) = true := decide_eq_true c41
                try have c41b2 : (9223372036854775807 < x6_2.size + ((rd_T43 l1 x19_2).f3).size) = False := eq_false (Nat.not_lt.2 c41)
                replace H := Option.bind_eq_some_iff.mp H
                obtain ⟨t128, A420, H⟩ := H
                replace H : (if t128 = true then (impl_done.l0 kj30 a0 (x6_2 ++ ((rd_T43 l1 x19_2).f3)) l1 (l1.length : Int) (wrap64 (x19_2 + 1))) else (some ((⟨#[]⟩ : ByteArray), false))) = some (r1, r2) := H
                have A42 := Aside0.mk A420
                clear A420
                by_cases c43 : t128 = true
                ·subst c43
                 have H1 : (impl_done.l0 kj30 a0 (x6_2 ++ ((rd_T43 l1 x19_2).f3)) l1 (l1.length : Int) (wrap64 (x19_2 + 1))) = some (r1, r2) := by rw [if_pos rfl] at H; exact H
                 clear H
                 have H := H1
                 clear H1
                 have H' := Aside0.mk H
                 clear H
                 have hcz44_0 : wc.cell? ⟨gb123, 0, none⟩ = some (.int .i64 ((rd_T43 l1 x19_2).f0)) := (blk_cell BK123.out 0).trans rfl
                 have hcz44_1 : wc.cell? ⟨gb123, 1, none⟩ = some (.int .i64 ((rd_T43 l1 x19_2).f1)) := (blk_cell BK123.out 1).trans rfl
                 have hcz44_2 : wc.cell? ⟨gb123, 2, none⟩ = some (.int .i64 ((rd_T43 l1 x19_2).f2)) := (blk_cell BK123.out 2).trans rfl
                 have hcz44_3 : wc.cell? ⟨gb123, 3, none⟩ = some (.string ((rd_T43 l1 x19_2).f3)) := (blk_cell BK123.out 3).trans rfl
                 have hfz44_0 := blk_frozen BK123.out 0
                 have hfz44_1 := blk_frozen BK123.out 1
                 have hfz44_2 := blk_frozen BK123.out 2
                 have hfz44_3 := blk_frozen BK123.out 3
                 go_wp2_with (first | ((with_reducible refine gate_callee (f := 67) rfl ?_); refine goesL_ (some 86) rfl rfl Try.func67 (by kernel_rfl) rfl #[.string (x6_2 ++ ((rd_T43 l1 x19_2).f3))] rfl (by (try simp only [List.map_toArray, List.map_cons, List.map_nil]); first | done | rfl | (simp only [List.length_drop, List.length_take]; rfl)) ?_; (with_reducible refine (impl_isData.calls (x6_2 ++ ((rd_T43 l1 x19_2).f3)) true _ A42.out).mono ?_); rintro e w' ⟨rfl, ⟨nd, rfl⟩⟩; refine ⟨_, rfl, ?_⟩))
                 go_roundg kj30
                 case measure => have := HJ2.out; have := HK2.out; have := HJ9.out; have := HJ30.out; omega
                 case rel => exact ⟨(x6_2 ++ ((rd_T43 l1 x19_2).f3)), (wrap64 (x19_2 + 1)), (by first | rfl | (simp; done) | (simp [*]; done)), (by first | rfl | (simp; done) | (simp [*]; done)), H', ⟨by have := HJ2.out; have := HK2.out; have := HJ9.out; have := HJ30.out; omega⟩, ⟨by repeat (first | (with_reducible first | exact HB.out | apply below_alloc | apply pw_below_drewN | apply below_drew1 | refine below_set ?_ GE123.out) | exact HB.out)⟩⟩
                ·replace c43 := Bool.eq_false_iff.mpr c43
                 subst c43
                 have H1 : (some ((⟨#[]⟩ : ByteArray), false)) = some (r1, r2) := by rw [if_neg (show ¬ (false = true) by decide)] at H; exact H
                 clear H
                 have H := H1
                 clear H1
                 simp only [Option.some.injEq, Prod.mk.injEq] at H
                 obtain ⟨rfl, rfl⟩ := H
                 have hcz45_0 : wc.cell? ⟨gb123, 0, none⟩ = some (.int .i64 ((rd_T43 l1 x19_2).f0)) := (blk_cell BK123.out 0).trans rfl
                 have hcz45_1 : wc.cell? ⟨gb123, 1, none⟩ = some (.int .i64 ((rd_T43 l1 x19_2).f1)) := (blk_cell BK123.out 1).trans rfl
                 have hcz45_2 : wc.cell? ⟨gb123, 2, none⟩ = some (.int .i64 ((rd_T43 l1 x19_2).f2)) := (blk_cell BK123.out 2).trans rfl
                 have hcz45_3 : wc.cell? ⟨gb123, 3, none⟩ = some (.string ((rd_T43 l1 x19_2).f3)) := (blk_cell BK123.out 3).trans rfl
                 have hfz45_0 := blk_frozen BK123.out 0
                 have hfz45_1 := blk_frozen BK123.out 1
                 have hfz45_2 := blk_frozen BK123.out 2
                 have hfz45_3 := blk_frozen BK123.out 3
                 go_wp2_with (first | ((with_reducible refine gate_callee (f := 67) rfl ?_); refine goesL_ (some 86) rfl rfl Try.func67 (by kernel_rfl) rfl #[.string (x6_2 ++ ((rd_T43 l1 x19_2).f3))] rfl (by (try simp only [List.map_toArray, List.map_cons, List.map_nil]); first | done | rfl | (simp only [List.length_drop, List.length_take]; rfl)) ?_; (with_reducible refine (impl_isData.calls (x6_2 ++ ((rd_T43 l1 x19_2).f3)) false _ A42.out).mono ?_); rintro e w' ⟨rfl, ⟨nd, rfl⟩⟩; refine ⟨_, rfl, ?_⟩))
                 go_ret2
                 exact ⟨by first | rfl | (simp [errW_none, errW_some] <;> rfl) | (simp [*, errW_none, errW_some] <;> rfl), by repeat (first | (with_reducible first | exact HB.out | apply below_alloc | apply pw_below_drewN | apply below_drew1 | refine below_set ?_ GE123.out) | exact HB.out)⟩
               ·rw [if_neg c41] at H
                exact absurd H (by simp)
              ·replace c40 := Bool.eq_false_iff.mpr c40
               subst c40
               have H1 : (some ((⟨#[]⟩ : ByteArray), false)) = some (r1, r2) := by rw [if_neg (show ¬ (false = true) by decide)] at H; exact H
               clear H
               have H := H1
               clear H1
               simp only [Option.some.injEq, Prod.mk.injEq] at H
               obtain ⟨rfl, rfl⟩ := H
               go_wp2
               go_ret2
               exact ⟨by first | rfl | (simp [errW_none, errW_some] <;> rfl) | (simp [*, errW_none, errW_some] <;> rfl), by repeat (first | (with_reducible first | exact HB.out | apply below_alloc | apply pw_below_drewN | apply below_drew1 | refine below_set ?_ GE123.out) | exact HB.out)⟩
        ·rw [if_neg c9] at H
         exact absurd H (by simp)
       ·rw [if_neg c8] at H
        exact absurd H (by simp)
      ·rw [if_neg c7] at H
       have c7b0 : decide (x19_2 < (l1.length : Int)) = false := decide_eq_false c7
       clear c7
       simp only [Option.some.injEq, Prod.mk.injEq] at H
       obtain ⟨rfl, rfl⟩ := H
       go_wp2
       go_ret2
       exact ⟨by first | rfl | (simp [errW_none, errW_some] <;> rfl) | (simp [*, errW_none, errW_some] <;> rfl), by repeat (first | (with_reducible first | exact HB.out | apply below_alloc | apply pw_below_drewN | apply below_drew1) | exact HB.out)⟩

/-! ### impl_GoodOps: function 21 -/
def impl_GoodOps.f (k : Nat) (a0 : ByteArray) (l1 : List (S43)) : Option (Bool) := (impl_done.f k a0 l1).bind fun bt129 => (some bt129.2)
theorem impl_GoodOps.mono : ∀ a0 a1 k, LeO (impl_GoodOps.f k a0 a1) (impl_GoodOps.f (k + 1) a0 a1) := by
 intro a0 a1 k
 unfold impl_GoodOps.f
 repeat' first
   | (with_reducible exact impl_done.mono _ _ _)
   | (with_reducible exact LeO.refl _)
   | (with_reducible exact LeO.none _)
   | (with_reducible refine LeO.ite ?_ ?_)
   | (with_reducible refine LeO.bind ?_ (fun _ => ?_))
   | exact impl_done.mono _ _ _
   | exact LeO.none _
   | refine LeO.ite ?_ ?_
   | refine LeO.bind ?_ (fun _ => ?_)
set_option maxHeartbeats 8000000 in
set_option maxRecDepth 100000 in
theorem impl_GoodOps.calls (k : Nat) (a0 : ByteArray) (A1 : Option Addr) (c1 : Nat) (l1 : List (S43)) (r : Bool) (w : World) (hr1 : Kd.C k43 w A1 l1.length l1) (hc1 : l1.length ≤ c1) (h : impl_GoodOps.f k a0 l1 = some r) :
  Calls Try.prog 21 #[.string a0, .slice A1 l1.length c1] w fun e w' => e = .returned (.bool r) ∧ Below w.heap.size w w' := by
 have HR1 := Aside0.mk hr1
 have HC1 := Aside0.mk hc1
 clear hr1 hc1
 have HB := Aside0.mk (Below.refl w.heap.size w)
 have H : ((impl_done.f k a0 l1).bind fun bt129 => (some bt129.2)) = some r := h
 clear h
 replace H := Option.bind_eq_some_iff.mp H
 obtain ⟨⟨t129, t130⟩, A30, H⟩ := H
 replace H : (some t130) = some r := H
 have A3 := Aside0.mk A30
 clear A30
 obtain rfl := Option.some.inj H
 go_enter Try.func21, Try.ntmps21
 go_wp2_with (first | ((with_reducible refine gate_callee (f := 61) rfl ?_); refine goesL_ (some 10) rfl rfl Try.func61 (by kernel_rfl) rfl #[.string a0, .slice A1 l1.length c1] rfl (by (try simp only [List.map_toArray, List.map_cons, List.map_nil]); first | done | rfl | (simp only [List.length_drop, List.length_take]; rfl)) ?_; (with_reducible refine (impl_done.calls k a0 _ _ l1 t129 t130 _ ?side1 ?side2 A3.out).mono ?_); (case side1 => repeat (first | exact HR1.out | (with_reducible refine Kd.C_alloc ?_ _) | (with_reducible refine Kd.C_drewN ?_ _) | (with_reducible refine Kd.C_drew ?_))); (case side2 => exact HC1.out); rintro e w4 ⟨rfl, hb⟩; refine ⟨_, rfl, ?_⟩; have n0_ := Aside0.mk (below_step (by repeat (first | (with_reducible first | exact HB.out | apply below_alloc | apply pw_below_drewN | apply below_drew1) | exact HB.out)) hb); clear HB; have HB := n0_; clear n0_; (try clear hb); (try clear hb2); (try clear hk); (try clear hi)))
 go_ret
 exact ⟨by first | rfl | (simp [errW_none, errW_some] <;> rfl) | (simp [*, errW_none, errW_some] <;> rfl), by repeat (first | (with_reducible first | exact HB.out | apply below_alloc | apply pw_below_drewN | apply below_drew1) | exact HB.out)⟩

end Go.Proofs.Ytnhnlfkbngnkpaa.D
