-- Made by a program of this session out of the translation; no hand has turned it.
import Derived.Test.YtnhnlfkbngnkpaaE0
import Derived.Test.YtnhnlfkbngnkpaaE3
import Derived.Test.YtnhnlfkbngnkpaaE11
import Derived.Test.YtnhnlfkbngnkpaaE12
namespace Go.Proofs.Ytnhnlfkbngnkpaa.E
open Go.RowKit Go.Proofs.YtnhnlfkbngnkpaaW.PrintWords Go.Proofs.YtnhnlfkbngnkpaaW.PrintLast Go.Proofs.YtnhnlfkbngnkpaaW.PrintMore
attribute [local go_sem] qXb qbc qac qec qZb qdc qYb qcc   -- for this text's walks alone
set_option linter.unusedVariables false
set_option linter.unusedSimpArgs false

/-! ### qKb: function 76 -/
def qKb.f (k : Nat) (l0 : List Int) : Option (ByteArray × (List (S43))) := (qsb.f k l0 0 0).bind fun bt364 => (some (bt364.1, bt364.2.1))
theorem qKb.mono : ∀ a0 k, LeO (qKb.f k a0) (qKb.f (k + 1) a0) := by
 intro a0 k
 unfold qKb.f
 repeat' first
   | (with_reducible exact qsb.mono _ _ _ _)
   | (with_reducible exact LeO.refl _)
   | (with_reducible exact LeO.none _)
   | (with_reducible refine LeO.ite ?_ ?_)
   | (with_reducible refine LeO.bind ?_ (fun _ => ?_))
   | exact LeO.none _
   | refine LeO.ite ?_ ?_
   | refine LeO.bind ?_ (fun _ => ?_)
set_option maxHeartbeats 8000000 in
set_option maxRecDepth 100000 in
theorem qKb.calls (k : Nat) (A0 : Option Addr) (c0 : Nat) (l0 : List Int) (r1 : ByteArray) (r2 : List (S43)) (w : World) (hr0 : Kd.C (Kd.int .u8) w A0 l0.length l0) (hc0 : l0.length ≤ c0) (h : qKb.f k l0 = some (r1, r2)) :
  Calls Try.prog 76 #[.slice A0 l0.length c0] w fun e w' => ∃ v1_ : Value, e = .returned (.tuple #[.string r1, v1_]) ∧ Kd.R k43 43 w' w.heap.size (fun _ => True) v1_ r2 ∧ Below w.heap.size w w' := by
 have hu79 := Try.underlying79
 have HR0 := qb.mk hr0
 have HC0 := qb.mk hc0
 clear hr0 hc0
 have HB := qb.mk (Below.refl w.heap.size w)
 have H : ((qsb.f k l0 0 0).bind fun bt364 => (some (bt364.1, bt364.2.1))) = some (r1, r2) := h
 clear h
 replace H := Option.bind_eq_some_iff.mp H
 obtain ⟨⟨t364, t365, t368, t369⟩, A20, H⟩ := H
 try dsimp only at H
 have A2 := qb.mk A20
 clear A20
 simp only [Option.some.injEq, Prod.mk.injEq] at H
 obtain ⟨rfl, rfl⟩ := H
 go_enter Try.func76, Try.ntmps76
 go_wp2_with (first | ((with_reducible refine qcb (N := 7) rfl ?_); refine qpb ?hg (N := 7) ?hd (cs := #[.slice A0 l0.length c0, .int .i64 0, .int .u64 0]) (t := 79) ?hr ?_; (case hd => rfl); (case hg => rfl); (case hr => first | (go_simp; done) | (go_simp; rfl)); intro gb363 hg w3 hbox hb; have BK363 := qb.mk (hbox); have GW363 := qb.mk ((by rw [hg]; exact (qG (by repeat (first | (with_reducible first | exact HB.out | apply qf | apply qg | apply qe) | exact HB.out))) : w.heap.size ≤ gb363)); have GE363 := qb.mk ((by rw [hg]; exact (qG (by repeat (first | (with_reducible first | exact HB.out | apply qf | apply qg | apply qe) | exact HB.out))) : w.heap.size ≤ gb363)); have HI363 := qb.mk ((show qd w w3 gb363 l0 0 0 from ⟨_, _, hbox, (by rw [hg]; exact (qG (by repeat (first | (with_reducible first | exact HB.out | apply qf | apply qg | apply qe) | exact HB.out))) : w.heap.size ≤ gb363), HR0.out⟩)); replace HB := qb.mk (qE (by repeat (first | (with_reducible first | exact HB.out | apply qf | apply qg | apply qe) | exact HB.out)) hb); clear hb hbox hg) | ((with_reducible refine qy (f := 85) rfl ?_); refine qz (some 9) rfl rfl Try.func85 (by kernel_rfl) rfl #[.pointer (some ⟨gb363, 0, none⟩)] rfl (by (try simp only [List.map_toArray, List.map_cons, List.map_nil]); first | done | rfl | (simp only [List.length_drop, List.length_take]; rfl)) ?_; (with_reducible refine (qsb.calls k gb363 l0 0 0 t364 t365 t368 t369 w _ ?side1 ?side2 A2.out).mono ?_); (case side1 => repeat (first | (with_reducible first | exact HI363.out | apply qd.alloc | apply qd.drewN | apply qd.drew | apply qd.set_1 | apply qd.set_2) | exact HI363.out)); (case side2 => repeat (first | (with_reducible first | exact HB.out | apply qf | apply qg | apply qe | refine qk ?_ (qd.ge HI363.out)) | exact HB.out)); rintro e w4 ⟨v366, rfl, ho0, hi, hb, hk⟩; refine ⟨_, rfl, ?_⟩; have HO367 := qb.mk (Kd.qU ho0 (qG (by repeat (first | (with_reducible first | exact HB.out | apply qf | apply qg | apply qe | refine qk ?_ (qd.ge HI363.out)) | exact HB.out)))); replace HB := qb.mk (hb); replace HI363 := qb.mk (hi); (try clear hb); (try clear hb2); (try clear hk); (try clear hi); (try clear ho0)))
 go_ret2
 exact ⟨_, by first | rfl | (simp [qv, qu] <;> rfl) | (simp [*, qv, qu] <;> rfl), by (with_reducible repeat (first | apply Kd.qo | apply Kd.qn | apply Kd.qm)); exact HO367.out, by repeat (first | (with_reducible first | exact HB.out | apply qf | apply qg | apply qe | refine qk ?_ (qd.ge HI363.out)) | exact HB.out)⟩

/-! ### qFb: function 50 -/
def qFb.f (k : Nat) (l0 : List Int) : Option (ByteArray × (List (S43))) := (qKb.f k l0).bind fun bt370 => (some (bt370.1, bt370.2))
theorem qFb.mono : ∀ a0 k, LeO (qFb.f k a0) (qFb.f (k + 1) a0) := by
 intro a0 k
 unfold qFb.f
 repeat' first
   | (with_reducible exact qKb.mono _ _)
   | (with_reducible exact LeO.refl _)
   | (with_reducible exact LeO.none _)
   | (with_reducible refine LeO.ite ?_ ?_)
   | (with_reducible refine LeO.bind ?_ (fun _ => ?_))
   | exact LeO.none _
   | refine LeO.ite ?_ ?_
   | refine LeO.bind ?_ (fun _ => ?_)
set_option maxHeartbeats 8000000 in
set_option maxRecDepth 100000 in
theorem qFb.calls (k : Nat) (A0 : Option Addr) (c0 : Nat) (l0 : List Int) (r1 : ByteArray) (r2 : List (S43)) (w : World) (hr0 : Kd.C (Kd.int .u8) w A0 l0.length l0) (hc0 : l0.length ≤ c0) (h : qFb.f k l0 = some (r1, r2)) :
  Calls Try.prog 50 #[.slice A0 l0.length c0] w fun e w' => ∃ v1_ : Value, e = .returned (.tuple #[.string r1, v1_]) ∧ Kd.R k43 43 w' w.heap.size (fun _ => True) v1_ r2 ∧ Below w.heap.size w w' := by
 have HR0 := qb.mk hr0
 have HC0 := qb.mk hc0
 clear hr0 hc0
 have HB := qb.mk (Below.refl w.heap.size w)
 have H : ((qKb.f k l0).bind fun bt370 => (some (bt370.1, bt370.2))) = some (r1, r2) := h
 clear h
 replace H := Option.bind_eq_some_iff.mp H
 obtain ⟨⟨t370, t371⟩, A20, H⟩ := H
 try dsimp only at H
 have A2 := qb.mk A20
 clear A20
 simp only [Option.some.injEq, Prod.mk.injEq] at H
 obtain ⟨rfl, rfl⟩ := H
 go_enter Try.func50, Try.ntmps50
 go_wp2_with (first | ((with_reducible refine qy (f := 76) rfl ?_); refine qz (some 5) rfl rfl Try.func76 (by kernel_rfl) rfl #[.slice A0 l0.length c0] rfl (by (try simp only [List.map_toArray, List.map_cons, List.map_nil]); first | done | rfl | (simp only [List.length_drop, List.length_take]; rfl)) ?_; (with_reducible refine (qKb.calls k _ _ l0 t370 t371 _ ?side1 ?side2 A2.out).mono ?_); (case side1 => repeat (first | exact HR0.out | (with_reducible refine Kd.qN ?_ _) | (with_reducible refine Kd.qM ?_ _) | (with_reducible refine Kd.qO ?_))); (case side2 => exact HC0.out); rintro e w3 ⟨v372, rfl, ho0, hb⟩; refine ⟨_, rfl, ?_⟩; have HO373 := qb.mk (Kd.qU ho0 (qG (by repeat (first | (with_reducible first | exact HB.out | apply qf | apply qg | apply qe) | exact HB.out)))); replace HB := qb.mk (qE (by repeat (first | (with_reducible first | exact HB.out | apply qf | apply qg | apply qe) | exact HB.out)) hb); (try clear hb); (try clear hb2); (try clear hk); (try clear hi); (try clear ho0)))
 go_ret2
 exact ⟨_, by first | rfl | (simp [qv, qu] <;> rfl) | (simp [*, qv, qu] <;> rfl), by (with_reducible repeat (first | apply Kd.qo | apply Kd.qn | apply Kd.qm)); exact HO373.out, by repeat (first | (with_reducible first | exact HB.out | apply qf | apply qg | apply qe) | exact HB.out)⟩

/-! ### qbb: function 87 -/
mutual
def qbb.l0 : Nat → ByteArray → ByteArray → Int → List Int → Int → Int → Option (ByteArray × Int × Int)
 | 0, _, _, _, _, _, _ => none
 | k + 1, x1, x2, x7, x1000, x1001, x1002 => if x7 > 0 then (qbb.j1 k x1 x2 x7 (decide ((x1.size : Int) > 0)) x1000 x1001 x1002) else (qbb.j1 k x1 x2 x7 false x1000 x1001 x1002)
def qbb.j1 : Nat → ByteArray → ByteArray → Int → Bool → List Int → Int → Int → Option (ByteArray × Int × Int)
 | 0, _, _, _, _, _, _, _ => none
 | k + 1, x1, x2, x7, x19, x1000, x1001, x1002 => if x19 = true then ((qK.f x1000 x1001 x1002 (x1.size : Int)).bind fun bt377 => ((qK.f x1000 bt377.2.1 bt377.2.2 (x2.size : Int)).bind fun bt380 => (if 0 ≤ bt380.1 then (if bt380.1 < (x2.size : Int) then ((some (([bt x2 bt380.1] : List Int) : List Int)).bind fun y383 => ((qK.f x1000 bt380.2.1 bt380.2.2 3).bind fun bt386 => (if bt386.1 = 0 then (if 0 ≤ bt377.1 then (if bt377.1 ≤ (x1.size : Int) then (if (x1.extract 0 (bt377.1 : Int).toNat).size + (strOfNums y383).size ≤ 9223372036854775807 then (if ((x1.extract 0 (bt377.1 : Int).toNat) ++ (strOfNums y383)).size + (x1.extract (bt377.1 : Int).toNat x1.size).size ≤ 9223372036854775807 then (qbb.l0 k (((x1.extract 0 (bt377.1 : Int).toNat) ++ (strOfNums y383)) ++ (x1.extract (bt377.1 : Int).toNat x1.size)) x2 (wrap64 (x7 - 1)) x1000 bt386.2.1 bt386.2.2) else (none)) else (none)) else (none)) else (none)) else (if bt386.1 = 1 then (if 0 ≤ bt377.1 then (if bt377.1 ≤ (x1.size : Int) then (if (x1.extract 0 (bt377.1 : Int).toNat).size + (strOfNums y383).size ≤ 9223372036854775807 then (if 0 ≤ (wrap64 (bt377.1 + 1)) then (if (wrap64 (bt377.1 + 1)) ≤ (x1.size : Int) then (if ((x1.extract 0 (bt377.1 : Int).toNat) ++ (strOfNums y383)).size + (x1.extract ((wrap64 (bt377.1 + 1)) : Int).toNat x1.size).size ≤ 9223372036854775807 then (qbb.l0 k (((x1.extract 0 (bt377.1 : Int).toNat) ++ (strOfNums y383)) ++ (x1.extract ((wrap64 (bt377.1 + 1)) : Int).toNat x1.size)) x2 (wrap64 (x7 - 1)) x1000 bt386.2.1 bt386.2.2) else (none)) else (none)) else (none)) else (none)) else (none)) else (none)) else (if 0 ≤ bt377.1 then (if bt377.1 ≤ (x1.size : Int) then (if 0 ≤ (wrap64 (bt377.1 + 1)) then (if (wrap64 (bt377.1 + 1)) ≤ (x1.size : Int) then (if (x1.extract 0 (bt377.1 : Int).toNat).size + (x1.extract ((wrap64 (bt377.1 + 1)) : Int).toNat x1.size).size ≤ 9223372036854775807 then (qbb.l0 k ((x1.extract 0 (bt377.1 : Int).toNat) ++ (x1.extract ((wrap64 (bt377.1 + 1)) : Int).toNat x1.size)) x2 (wrap64 (x7 - 1)) x1000 bt386.2.1 bt386.2.2) else (none)) else (none)) else (none)) else (none)) else (none)))))) else (none)) else (none)))) else (some (x1, x1001, x1002))
end
def qbb.f (k : Nat) (s0_0 : List Int) (s0_1 : Int) (s0_2 : Int) (a1 : ByteArray) (a2 : ByteArray) : Option (ByteArray × Int × Int) := (qK.f s0_0 s0_1 s0_2 2).bind fun bt374 => (qbb.l0 k a1 a2 (wrap64 (1 + bt374.1)) s0_0 bt374.2.1 bt374.2.2)
theorem qbb.qjb : ∀ k, (∀ y0 y1 y2 y3 y4 y5, LeO (qbb.l0 k y0 y1 y2 y3 y4 y5) (qbb.l0 (k + 1) y0 y1 y2 y3 y4 y5)) ∧ (∀ y0 y1 y2 y3 y4 y5 y6, LeO (qbb.j1 k y0 y1 y2 y3 y4 y5 y6) (qbb.j1 (k + 1) y0 y1 y2 y3 y4 y5 y6))
 | 0 => ⟨fun _ _ _ _ _ _ r h => by simp [qbb.l0] at h, fun _ _ _ _ _ _ _ r h => by simp [qbb.j1] at h⟩
 | k + 1 => by
  obtain ⟨ih0, ih1⟩ := qbb.qjb k
  refine ⟨?_, ?_⟩
  ·intro y0 y1 y2 y3 y4 y5
   unfold qbb.l0
   repeat' first
   | (with_reducible exact ih0 _ _ _ _ _ _)
   | (with_reducible exact ih1 _ _ _ _ _ _ _)
   | (with_reducible exact LeO.refl _)
   | (with_reducible exact LeO.none _)
   | (with_reducible refine LeO.ite ?_ ?_)
   | (with_reducible refine LeO.bind ?_ (fun _ => ?_))
   | exact LeO.none _
   | refine LeO.ite ?_ ?_
   | refine LeO.bind ?_ (fun _ => ?_)
  ·intro y0 y1 y2 y3 y4 y5 y6
   unfold qbb.j1
   repeat' first
   | (with_reducible exact ih0 _ _ _ _ _ _)
   | (with_reducible exact ih1 _ _ _ _ _ _ _)
   | (with_reducible exact LeO.refl _)
   | (with_reducible exact LeO.none _)
   | (with_reducible refine LeO.ite ?_ ?_)
   | (with_reducible refine LeO.bind ?_ (fun _ => ?_))
   | exact LeO.none _
   | refine LeO.ite ?_ ?_
   | refine LeO.bind ?_ (fun _ => ?_)
theorem qbb.mono : ∀ a0 a1 a2 a3 a4 k, LeO (qbb.f k a0 a1 a2 a3 a4) (qbb.f (k + 1) a0 a1 a2 a3 a4) := by
 intro a0 a1 a2 a3 a4 k
 obtain ⟨ih0, ih1⟩ := qbb.qjb k
 unfold qbb.f
 repeat' first
   | (with_reducible exact ih0 _ _ _ _ _ _)
   | (with_reducible exact ih1 _ _ _ _ _ _ _)
   | (with_reducible exact LeO.refl _)
   | (with_reducible exact LeO.none _)
   | (with_reducible refine LeO.ite ?_ ?_)
   | (with_reducible refine LeO.bind ?_ (fun _ => ?_))
   | exact LeO.none _
   | refine LeO.ite ?_ ?_
   | refine LeO.bind ?_ (fun _ => ?_)
set_option maxHeartbeats 8000000 in
set_option maxRecDepth 100000 in
theorem qbb.calls (k : Nat) (g : Nat) (s0_0 : List Int) (s0_1 : Int) (s0_2 : Int) (a1 : ByteArray) (a2 : ByteArray) (r1 : ByteArray) (r2 : Int) (r3 : Int) (w0 w : World) (hI : qd w0 w g s0_0 s0_1 s0_2) (hB : Below w0.heap.size w0 w) (h : qbb.f k s0_0 s0_1 s0_2 a1 a2 = some (r1, r2, r3)) :
  Calls Try.prog 87 #[.pointer (some ⟨g, 0, none⟩), .string a1, .string a2] w fun e w' => e = .returned (.string r1) ∧ qd w0 w' g s0_0 r2 r3 ∧ Below w0.heap.size w0 w' ∧ qh w w' g none := by
 have HI0 := qb.mk hI
 have HK := qb.mk (qh.refl w g none)
 have HL := qb.mk hB.size
 clear hI
 have HW0 := qb.mk hB.size
 have HB := qb.mk hB
 clear hB
 have H : ((qK.f s0_0 s0_1 s0_2 2).bind fun bt374 => (qbb.l0 k a1 a2 (wrap64 (1 + bt374.1)) s0_0 bt374.2.1 bt374.2.2)) = some (r1, r2, r3) := h
 clear h
 replace H := Option.bind_eq_some_iff.mp H
 obtain ⟨⟨t374, t375, t376⟩, A40, H⟩ := H
 try dsimp only at H
 have A4 := qb.mk A40
 clear A40
 have H' := qb.mk H
 clear H
 go_enter Try.func87, Try.ntmps87
 go_wp2_with (first | (go_at_call 86; (with_reducible refine (qK.calls g s0_0 s0_1 s0_2 2 t374 t375 t376 w0 _ ?side1 ?side2 A4.out).mono ?_); (case side1 => repeat (first | (with_reducible first | exact HI0.out | apply qd.alloc | apply qd.drewN | apply qd.drew | apply qd.set_1 | apply qd.set_2) | exact HI0.out)); (case side2 => repeat (first | (with_reducible first | exact HB.out | apply qf | apply qg | apply qe | refine qk ?_ (qd.ge HI0.out)) | exact HB.out)); rintro e w5 ⟨rfl, hi, hb, hk⟩; replace HK := qb.mk (qh.trans (by repeat (first | (with_reducible first | exact HK.out | apply qh.set_ | apply qr | apply qq | apply qt) | exact HK.out)) hk (.inl rfl)); replace HB := qb.mk (hb); replace HI0 := qb.mk (hi); (try clear hb); (try clear hb2); (try clear hk); (try clear hi)))
 repeat (go_quiet (first | (go_at_call 86; (with_reducible refine (qK.calls g s0_0 s0_1 s0_2 2 t374 t375 t376 w0 _ ?side1 ?side2 A4.out).mono ?_); (case side1 => repeat (first | (with_reducible first | exact HI0.out | apply qd.alloc | apply qd.drewN | apply qd.drew | apply qd.set_1 | apply qd.set_2) | exact HI0.out)); (case side2 => repeat (first | (with_reducible first | exact HB.out | apply qf | apply qg | apply qe | refine qk ?_ (qd.ge HI0.out)) | exact HB.out)); rintro e w5 ⟨rfl, hi, hb, hk⟩; replace HK := qb.mk (qh.trans (by repeat (first | (with_reducible first | exact HK.out | apply qh.set_ | apply qr | apply qq | apply qt) | exact HK.out)) hk (.inl rfl)); replace HB := qb.mk (hb); replace HI0 := qb.mk (hi); (try clear hb); (try clear hb2); (try clear hk); (try clear hi))); try go_wp2_with (first | (go_at_call 86; (with_reducible refine (qK.calls g s0_0 s0_1 s0_2 2 t374 t375 t376 w0 _ ?side1 ?side2 A4.out).mono ?_); (case side1 => repeat (first | (with_reducible first | exact HI0.out | apply qd.alloc | apply qd.drewN | apply qd.drew | apply qd.set_1 | apply qd.set_2) | exact HI0.out)); (case side2 => repeat (first | (with_reducible first | exact HB.out | apply qf | apply qg | apply qe | refine qk ?_ (qd.ge HI0.out)) | exact HB.out)); rintro e w5 ⟨rfl, hi, hb, hk⟩; replace HK := qb.mk (qh.trans (by repeat (first | (with_reducible first | exact HK.out | apply qh.set_ | apply qr | apply qq | apply qt) | exact HK.out)) hk (.inl rfl)); replace HB := qb.mk (hb); replace HI0 := qb.mk (hi); (try clear hb); (try clear hb2); (try clear hk); (try clear hi))))
 go_loopg [1, 7] k (fun kq v1 v7 w' => ∃ (x1_1 : ByteArray) (x7_1 : Int) (x1001_1 : Int) (x1002_1 : Int), v1 = .string x1_1 ∧ v7 = .int .i64 x7_1 ∧ qb (qbb.l0 kq x1_1 a2 x7_1 s0_0 x1001_1 x1002_1 = some (r1, r2, r3)) ∧ qb (kq ≤ k) ∧ qb (qd w0 w' g s0_0 x1001_1 x1002_1) ∧ qb (qh w w' g none) ∧ qb (Below w0.heap.size w0 w'))
 case atStart => exact ⟨(a1), (wrap64 (1 + t374)), (t375), (t376), (by first | rfl | (simp; done) | (simp [*]; done)), (by first | rfl | (simp; done) | (simp [*]; done)), H', ⟨Nat.le_refl _⟩, ⟨by repeat (first | (with_reducible first | exact HI0.out | apply qd.alloc | apply qd.drewN | apply qd.drew | apply qd.set_1 | apply qd.set_2) | exact HI0.out)⟩, ⟨by repeat (first | (with_reducible first | exact HK.out | apply qh.set_ | apply qr | apply qq | apply qt) | exact HK.out)⟩, ⟨by repeat (first | (with_reducible first | exact HB.out | apply qf | apply qg | apply qe | refine qk ?_ (qd.ge HI0.out)) | exact HB.out)⟩⟩
 case round =>
  clear H'
  try clear p2
  obtain ⟨x1_1, x7_1, x1001_1, x1002_1, rfl, rfl, HA, HK1, HI0, HK, HB⟩ := hrel
  cases gk with
  | zero => exact absurd HA.out (by simp [qbb.l0])
  | succ k1 =>
   have H := HA.out
   clear HA
   simp only [qbb.l0] at H
   have HC6 := qb.mk H
   clear H
   go_upto_region 2 with (fail)
   repeat (go_quiet (fail); go_upto_region 2 with (fail))
   go_cut [19] (fun v19 wc => ∃ (kq : Nat) (x19_5 : Bool), v19 = .bool x19_5 ∧ qb (qbb.j1 kq x1_1 a2 x7_1 x19_5 s0_0 x1001_1 x1002_1 = some (r1, r2, r3)) ∧ qb (kq ≤ k1) ∧ qb (qd w0 wc g s0_0 x1001_1 x1002_1) ∧ qb (qh w wc g none) ∧ qb (Below w0.heap.size w0 wc))
   case first =>
    have H := HC6.out
    clear HC6
    by_cases c7 : x7_1 > 0
    ·rw [if_pos c7] at H
     have c7b0 : decide (0 < x7_1) = true := decide_eq_true c7
     clear c7
     (first | rw [c7b0] | (simp only [i64_w, i32_w]; rw [c7b0]) | skip)
     have H' := qb.mk H
     clear H
     go_wp2
     repeat (go_quiet (fail); try go_wp2)
     go_meet
     case rel => exact ⟨_, (decide ((x1_1.size : Int) > 0)), (by first | rfl | (simp; done) | (simp [*]; done)), H', ⟨by have := HK1.out; first | omega | exact Nat.le_refl _⟩, ⟨by repeat (first | (with_reducible first | exact HI0.out | apply qd.alloc | apply qd.drewN | apply qd.drew | apply qd.set_1 | apply qd.set_2) | exact HI0.out)⟩, ⟨by repeat (first | (with_reducible first | exact HK.out | apply qh.set_ | apply qr | apply qq | apply qt) | exact HK.out)⟩, ⟨by repeat (first | (with_reducible first | exact HB.out | apply qf | apply qg | apply qe | refine qk ?_ (qd.ge HI0.out)) | exact HB.out)⟩⟩
    ·rw [if_neg c7] at H
     have c7b0 : decide (0 < x7_1) = false := decide_eq_false c7
     clear c7
     (first | rw [c7b0] | (simp only [i64_w, i32_w]; rw [c7b0]) | skip)
     have H' := qb.mk H
     clear H
     go_wp2
     repeat (go_quiet (fail); try go_wp2)
     go_meet
     case rel => exact ⟨_, (false), (by first | rfl | (simp; done) | (simp [*]; done)), H', ⟨by have := HK1.out; first | omega | exact Nat.le_refl _⟩, ⟨by repeat (first | (with_reducible first | exact HI0.out | apply qd.alloc | apply qd.drewN | apply qd.drew | apply qd.set_1 | apply qd.set_2) | exact HI0.out)⟩, ⟨by repeat (first | (with_reducible first | exact HK.out | apply qh.set_ | apply qr | apply qq | apply qt) | exact HK.out)⟩, ⟨by repeat (first | (with_reducible first | exact HB.out | apply qf | apply qg | apply qe | refine qk ?_ (qd.ge HI0.out)) | exact HB.out)⟩⟩
   case rest =>
    clear HC6
    try clear p2
    try clear p6
    try clear c7
    try clear c7b0
    try clear p2
    obtain ⟨kq, x19_5, rfl, HA, HJ5, HI0, HK, HB⟩ := hcut
    cases kq with
    | zero => exact absurd HA.out (by simp [qbb.j1])
    | succ kj5 =>
     have H := HA.out
     clear HA
     simp only [qbb.j1] at H
     by_cases c8 : x19_5 = true
     ·subst c8
      rw [if_pos rfl] at H
      replace H := Option.bind_eq_some_iff.mp H
      obtain ⟨⟨t377, t378, t379⟩, A90, H⟩ := H
      try dsimp only at H
      have A9 := qb.mk A90
      clear A90
      replace H := Option.bind_eq_some_iff.mp H
      obtain ⟨⟨t380, t381, t382⟩, A100, H⟩ := H
      try dsimp only at H
      have A10 := qb.mk A100
      clear A100
      by_cases c11 : 0 ≤ t380
      ·rw [if_pos c11] at H
       have c11b0 : decide (0 ≤ t380) = true := decide_eq_true c11
       clear c11
       by_cases c12 : t380 < (a2.size : Int)
       ·rw [if_pos c12] at H
        have c12b0 : decide (t380 < (a2.size : Int)) = true := decide_eq_true c12
        clear c12
        obtain ⟨y383, hy383⟩ : ∃ y_ : List Int, y_ = (([bt a2 t380] : List Int)) := ⟨_, rfl⟩
        replace H : ((qK.f s0_0 t381 t382 3).bind fun bt386 => (if bt386.1 = 0 then (if 0 ≤ t377 then (if t377 ≤ (x1_1.size : Int) then (if (x1_1.extract 0 (t377 : Int).toNat).size + (strOfNums y383).size ≤ 9223372036854775807 then (if ((x1_1.extract 0 (t377 : Int).toNat) ++ (strOfNums y383)).size + (x1_1.extract (t377 : Int).toNat x1_1.size).size ≤ 9223372036854775807 then (qbb.l0 kj5 (((x1_1.extract 0 (t377 : Int).toNat) ++ (strOfNums y383)) ++ (x1_1.extract (t377 : Int).toNat x1_1.size)) a2 (wrap64 (x7_1 - 1)) s0_0 bt386.2.1 bt386.2.2) else (none)) else (none)) else (none)) else (none)) else (if bt386.1 = 1 then (if 0 ≤ t377 then (if t377 ≤ (x1_1.size : Int) then (if (x1_1.extract 0 (t377 : Int).toNat).size + (strOfNums y383).size ≤ 9223372036854775807 then (if 0 ≤ (wrap64 (t377 + 1)) then (if (wrap64 (t377 + 1)) ≤ (x1_1.size : Int) then (if ((x1_1.extract 0 (t377 : Int).toNat) ++ (strOfNums y383)).size + (x1_1.extract ((wrap64 (t377 + 1)) : Int).toNat x1_1.size).size ≤ 9223372036854775807 then (qbb.l0 kj5 (((x1_1.extract 0 (t377 : Int).toNat) ++ (strOfNums y383)) ++ (x1_1.extract ((wrap64 (t377 + 1)) : Int).toNat x1_1.size)) a2 (wrap64 (x7_1 - 1)) s0_0 bt386.2.1 bt386.2.2) else (none)) else (none)) else (none)) else (none)) else (none)) else (none)) else (if 0 ≤ t377 then (if t377 ≤ (x1_1.size : Int) then (if 0 ≤ (wrap64 (t377 + 1)) then (if (wrap64 (t377 + 1)) ≤ (x1_1.size : Int) then (if (x1_1.extract 0 (t377 : Int).toNat).size + (x1_1.extract ((wrap64 (t377 + 1)) : Int).toNat x1_1.size).size ≤ 9223372036854775807 then (qbb.l0 kj5 ((x1_1.extract 0 (t377 : Int).toNat) ++ (x1_1.extract ((wrap64 (t377 + 1)) : Int).toNat x1_1.size)) a2 (wrap64 (x7_1 - 1)) s0_0 bt386.2.1 bt386.2.2) else (none)) else (none)) else (none)) else (none)) else (none))))) = some (r1, r2, r3) := by first | (rw [hy383]; with_reducible exact H) | (have H2_ := (Option.bind_some _ _).symm.trans H; rw [hy383]; with_reducible exact H2_) | (have H2_ := (Option.bind_some _ _).symm.trans H; with_reducible exact H2_) | with_reducible exact H | (rw [hy383]; exact H) | exact H
        have Ny383 := qb.mk hy383
        clear hy383
        replace H := Option.bind_eq_some_iff.mp H
        obtain ⟨⟨t386, t387, t388⟩, A140, H⟩ := H
        try dsimp only at H
        have A14 := qb.mk A140
        clear A140
        by_cases c15 : t386 = 0
        ·rw [if_pos c15] at H
         have c15b0 : (t386 == 0) = true := beq_iff_eq.mpr c15
         have c15b1 : (t386 != 0) = false := bne_eq_false_iff_eq.mpr c15
         clear c15
         by_cases c16 : 0 ≤ t377
         ·rw [if_pos c16] at H
          have c16b0 := eq_true c16
          have c16b1 : decide (0 ≤ t377) = true := decide_eq_true c16
          clear c16
          by_cases c17 : t377 ≤ (x1_1.size : Int)
          ·rw [if_pos c17] at H
           have c17b0 := eq_true c17
           have c17b1 : decide (t377 ≤ (x1_1.size : Int)) = true := decide_eq_true c17
           clear c17
           by_cases c18 : (x1_1.extract 0 (t377 : Int).toNat).size + (strOfNums y383).size ≤ 9223372036854775807
           ·rw [if_pos c18] at H
            have c18b0 := eq_true c18
            have c18b1 : decide ((x1_1.extract 0 (t377 : Int).toNat).size + (strOfNums y383).size ≤ 9223372036854775807) = true := decide_eq_true c18
            try have c18b2 : (9223372036854775807 < (x1_1.extract 0 (t377 : Int).toNat).size + (strOfNums y383).size) = False := eq_false (Nat.not_lt.2 c18)
            have c18b3 : ∀ m_ n_ : Nat, m_ = (x1_1.extract 0 (t377 : Int).toNat).size → n_ = (strOfNums y383).size → (9223372036854775807 < m_ + n_) = False := fun m_ n_ h1_ h2_ => by rw [h1_, h2_]; exact eq_false (Nat.not_lt.2 c18)
            have c19b0 := eq_true (of_decide_eq_true (by first | (with_reducible assumption) | assumption) : 0 ≤ t377)
            have c20b0 := eq_true (of_decide_eq_true (by first | (with_reducible assumption) | assumption) : t377 ≤ (x1_1.size : Int))
            by_cases c21 : ((x1_1.extract 0 (t377 : Int).toNat) ++ (strOfNums y383)).size + (x1_1.extract (t377 : Int).toNat x1_1.size).size ≤ 9223372036854775807
            ·rw [if_pos c21] at H
             have c21b0 := eq_true c21
             have c21b1 : decide (((x1_1.extract 0 (t377 : Int).toNat) ++ (strOfNums y383)).size + (x1_1.extract (t377 : Int).toNat x1_1.size).size ≤ 9223372036854775807) = true := decide_eq_true c21
             try have c21b2 : (9223372036854775807 < ((x1_1.extract 0 (t377 : Int).toNat) ++ (strOfNums y383)).size + (x1_1.extract (t377 : Int).toNat x1_1.size).size) = False := eq_false (Nat.not_lt.2 c21)
             have c21b3 : ∀ m_ n_ : Nat, m_ = ((x1_1.extract 0 (t377 : Int).toNat) ++ (strOfNums y383)).size → n_ = (x1_1.extract (t377 : Int).toNat x1_1.size).size → (9223372036854775807 < m_ + n_) = False := fun m_ n_ h1_ h2_ => by rw [h1_, h2_]; exact eq_false (Nat.not_lt.2 c21)
             have H' := qb.mk H
             clear H
             go_wp2_with (first | (go_at_call 86; (with_reducible refine (qK.calls g s0_0 x1001_1 x1002_1 (x1_1.size : Int) t377 t378 t379 w0 _ ?side1 ?side2 A9.out).mono ?_); (case side1 => repeat (first | (with_reducible first | exact HI0.out | apply qd.alloc | apply qd.drewN | apply qd.drew | apply qd.set_1 | apply qd.set_2) | exact HI0.out)); (case side2 => repeat (first | (with_reducible first | exact HB.out | apply qf | apply qg | apply qe | refine qk ?_ (qd.ge HI0.out)) | exact HB.out)); rintro e w22 ⟨rfl, hi, hb, hk⟩; replace HK := qb.mk (qh.trans (by repeat (first | (with_reducible first | exact HK.out | apply qh.set_ | apply qr | apply qq | apply qt) | exact HK.out)) hk (.inl rfl)); replace HB := qb.mk (hb); replace HI0 := qb.mk (hi); (try clear hb); (try clear hb2); (try clear hk); (try clear hi)) | (go_at_call 86; (with_reducible refine (qK.calls g s0_0 t378 t379 (a2.size : Int) t380 t381 t382 w0 _ ?side1 ?side2 A10.out).mono ?_); (case side1 => repeat (first | (with_reducible first | exact HI0.out | apply qd.alloc | apply qd.drewN | apply qd.drew | apply qd.set_1 | apply qd.set_2) | exact HI0.out)); (case side2 => repeat (first | (with_reducible first | exact HB.out | apply qf | apply qg | apply qe | refine qk ?_ (qd.ge HI0.out)) | exact HB.out)); rintro e w23 ⟨rfl, hi, hb, hk⟩; replace HK := qb.mk (qh.trans (by repeat (first | (with_reducible first | exact HK.out | apply qh.set_ | apply qr | apply qq | apply qt) | exact HK.out)) hk (.inl rfl)); replace HB := qb.mk (hb); replace HI0 := qb.mk (hi); (try clear hb); (try clear hb2); (try clear hk); (try clear hi); have p13 : 0 ≤ (t380 : Int) := of_decide_eq_true (by first | (with_reducible assumption) | assumption); have q13 : t380 < (a2.size : Int) := of_decide_eq_true (by first | (with_reducible assumption) | assumption); have hx13 := bt_at a2 t380; replace p13 := eq_true p13; replace q13 := eq_true q13) | ((with_reducible refine qcb (N := 32) rfl ?_); (try (refine qub (by rfl) ?_; dsimp only)); refine Kd.R_lit (Kd.int .u8) _ 5 ?hg (N := 32) ?hd (xs := ([bt a2 t380] : List Int)) (inner := [.int .u8 (bt a2 t380)]) (ok := fun _ => True) (okp := fun _ => True) ?hr ?hp (fun _ hk => hk) trivial (Below.refl _ _) (Nat.le_refl _) (by simp) ?_; (case hd => rfl); (case hg => rfl); (case hr => first | (go_simp; done) | (go_simp; rfl)); (case hp => exact (Reps.one (show Kd.M (Kd.int .u8) _ _ _ (bt a2 t380) [.int .u8 (bt a2 t380)] from rfl) (Reps.none _ _))); intro v384 w24 ho25 hb hg_ hnew_; clear hg_ hnew_; (first | rw [← Ny383.out] at ho25 | (simp only [Int.reduceToNat] at ho25; rw [← Ny383.out] at ho25)); have HO385 := qb.mk (Kd.qU ho25 (qob (w := w) (g := g) (row := none) (by repeat (first | (with_reducible first | exact HK.out | apply qh.set_ | apply qr | apply qq | apply qt) | exact HK.out)))); replace HK := qb.mk (qh.trans (by repeat (first | (with_reducible first | exact HK.out | apply qh.set_ | apply qr | apply qq | apply qt) | exact HK.out)) (qh.of_below hb g none) (.inl rfl)); replace HB := qb.mk (qE (by repeat (first | (with_reducible first | exact HB.out | apply qf | apply qg | apply qe | refine qk ?_ (qd.ge HI0.out)) | exact HB.out)) hb); replace HI0 := qb.mk (qd.below (by repeat (first | (with_reducible first | exact HI0.out | apply qd.alloc | apply qd.drewN | apply qd.drew | apply qd.set_1 | apply qd.set_2) | exact HI0.out)) hb); clear hb ho25; have hcv26 := qRb (P := Try.prog) Try.underlying38 Try.underlying5 Try.underlying9 (Kd.qQb HO385.out)) | (go_at_call 86; (with_reducible refine (qK.calls g s0_0 t381 t382 3 t386 t387 t388 w0 _ ?side1 ?side2 A14.out).mono ?_); (case side1 => repeat (first | (with_reducible first | exact HI0.out | apply qd.alloc | apply qd.drewN | apply qd.drew | apply qd.set_1 | apply qd.set_2) | exact HI0.out)); (case side2 => repeat (first | (with_reducible first | exact HB.out | apply qf | apply qg | apply qe | refine qk ?_ (qd.ge HI0.out)) | exact HB.out)); rintro e w27 ⟨rfl, hi, hb, hk⟩; replace HO385 := qb.mk (Kd.qF (Kd.qeb (qd.apart (show qd w0 _ g s0_0 t381 t382 from by repeat (first | (with_reducible first | exact HI0.out | apply qd.alloc | apply qd.drewN | apply qd.drew | apply qd.set_1 | apply qd.set_2) | exact HI0.out)) (by (with_reducible repeat (first | apply Kd.qo | apply Kd.qn | apply Kd.qm)); exact HO385.out) (by decide)) hk (fun _ h => h.2)) (fun _ h => h.1)); replace HK := qb.mk (qh.trans (by repeat (first | (with_reducible first | exact HK.out | apply qh.set_ | apply qr | apply qq | apply qt) | exact HK.out)) hk (.inl rfl)); replace HB := qb.mk (hb); replace HI0 := qb.mk (hi); (try clear hb); (try clear hb2); (try clear hk); (try clear hi)))
             repeat (go_quiet (first | (go_at_call 86; (with_reducible refine (qK.calls g s0_0 x1001_1 x1002_1 (x1_1.size : Int) t377 t378 t379 w0 _ ?side1 ?side2 A9.out).mono ?_); (case side1 => repeat (first | (with_reducible first | exact HI0.out | apply qd.alloc | apply qd.drewN | apply qd.drew | apply qd.set_1 | apply qd.set_2) | exact HI0.out)); (case side2 => repeat (first | (with_reducible first | exact HB.out | apply qf | apply qg | apply qe | refine qk ?_ (qd.ge HI0.out)) | exact HB.out)); rintro e w22 ⟨rfl, hi, hb, hk⟩; replace HK := qb.mk (qh.trans (by repeat (first | (with_reducible first | exact HK.out | apply qh.set_ | apply qr | apply qq | apply qt) | exact HK.out)) hk (.inl rfl)); replace HB := qb.mk (hb); replace HI0 := qb.mk (hi); (try clear hb); (try clear hb2); (try clear hk); (try clear hi)) | (go_at_call 86; (with_reducible refine (qK.calls g s0_0 t378 t379 (a2.size : Int) t380 t381 t382 w0 _ ?side1 ?side2 A10.out).mono ?_); (case side1 => repeat (first | (with_reducible first | exact HI0.out | apply qd.alloc | apply qd.drewN | apply qd.drew | apply qd.set_1 | apply qd.set_2) | exact HI0.out)); (case side2 => repeat (first | (with_reducible first | exact HB.out | apply qf | apply qg | apply qe | refine qk ?_ (qd.ge HI0.out)) | exact HB.out)); rintro e w23 ⟨rfl, hi, hb, hk⟩; replace HK := qb.mk (qh.trans (by repeat (first | (with_reducible first | exact HK.out | apply qh.set_ | apply qr | apply qq | apply qt) | exact HK.out)) hk (.inl rfl)); replace HB := qb.mk (hb); replace HI0 := qb.mk (hi); (try clear hb); (try clear hb2); (try clear hk); (try clear hi); have p13 : 0 ≤ (t380 : Int) := of_decide_eq_true (by first | (with_reducible assumption) | assumption); have q13 : t380 < (a2.size : Int) := of_decide_eq_true (by first | (with_reducible assumption) | assumption); have hx13 := bt_at a2 t380; replace p13 := eq_true p13; replace q13 := eq_true q13) | ((with_reducible refine qcb (N := 32) rfl ?_); (try (refine qub (by rfl) ?_; dsimp only)); refine Kd.R_lit (Kd.int .u8) _ 5 ?hg (N := 32) ?hd (xs := ([bt a2 t380] : List Int)) (inner := [.int .u8 (bt a2 t380)]) (ok := fun _ => True) (okp := fun _ => True) ?hr ?hp (fun _ hk => hk) trivial (Below.refl _ _) (Nat.le_refl _) (by simp) ?_; (case hd => rfl); (case hg => rfl); (case hr => first | (go_simp; done) | (go_simp; rfl)); (case hp => exact (Reps.one (show Kd.M (Kd.int .u8) _ _ _ (bt a2 t380) [.int .u8 (bt a2 t380)] from rfl) (Reps.none _ _))); intro v384 w24 ho25 hb hg_ hnew_; clear hg_ hnew_; (first | rw [← Ny383.out] at ho25 | (simp only [Int.reduceToNat] at ho25; rw [← Ny383.out] at ho25)); have HO385 := qb.mk (Kd.qU ho25 (qob (w := w) (g := g) (row := none) (by repeat (first | (with_reducible first | exact HK.out | apply qh.set_ | apply qr | apply qq | apply qt) | exact HK.out)))); replace HK := qb.mk (qh.trans (by repeat (first | (with_reducible first | exact HK.out | apply qh.set_ | apply qr | apply qq | apply qt) | exact HK.out)) (qh.of_below hb g none) (.inl rfl)); replace HB := qb.mk (qE (by repeat (first | (with_reducible first | exact HB.out | apply qf | apply qg | apply qe | refine qk ?_ (qd.ge HI0.out)) | exact HB.out)) hb); replace HI0 := qb.mk (qd.below (by repeat (first | (with_reducible first | exact HI0.out | apply qd.alloc | apply qd.drewN | apply qd.drew | apply qd.set_1 | apply qd.set_2) | exact HI0.out)) hb); clear hb ho25; have hcv26 := qRb (P := Try.prog) Try.underlying38 Try.underlying5 Try.underlying9 (Kd.qQb HO385.out)) | (go_at_call 86; (with_reducible refine (qK.calls g s0_0 t381 t382 3 t386 t387 t388 w0 _ ?side1 ?side2 A14.out).mono ?_); (case side1 => repeat (first | (with_reducible first | exact HI0.out | apply qd.alloc | apply qd.drewN | apply qd.drew | apply qd.set_1 | apply qd.set_2) | exact HI0.out)); (case side2 => repeat (first | (with_reducible first | exact HB.out | apply qf | apply qg | apply qe | refine qk ?_ (qd.ge HI0.out)) | exact HB.out)); rintro e w27 ⟨rfl, hi, hb, hk⟩; replace HO385 := qb.mk (Kd.qF (Kd.qeb (qd.apart (show qd w0 _ g s0_0 t381 t382 from by repeat (first | (with_reducible first | exact HI0.out | apply qd.alloc | apply qd.drewN | apply qd.drew | apply qd.set_1 | apply qd.set_2) | exact HI0.out)) (by (with_reducible repeat (first | apply Kd.qo | apply Kd.qn | apply Kd.qm)); exact HO385.out) (by decide)) hk (fun _ h => h.2)) (fun _ h => h.1)); replace HK := qb.mk (qh.trans (by repeat (first | (with_reducible first | exact HK.out | apply qh.set_ | apply qr | apply qq | apply qt) | exact HK.out)) hk (.inl rfl)); replace HB := qb.mk (hb); replace HI0 := qb.mk (hi); (try clear hb); (try clear hb2); (try clear hk); (try clear hi))); try go_wp2_with (first | (go_at_call 86; (with_reducible refine (qK.calls g s0_0 x1001_1 x1002_1 (x1_1.size : Int) t377 t378 t379 w0 _ ?side1 ?side2 A9.out).mono ?_); (case side1 => repeat (first | (with_reducible first | exact HI0.out | apply qd.alloc | apply qd.drewN | apply qd.drew | apply qd.set_1 | apply qd.set_2) | exact HI0.out)); (case side2 => repeat (first | (with_reducible first | exact HB.out | apply qf | apply qg | apply qe | refine qk ?_ (qd.ge HI0.out)) | exact HB.out)); rintro e w22 ⟨rfl, hi, hb, hk⟩; replace HK := qb.mk (qh.trans (by repeat (first | (with_reducible first | exact HK.out | apply qh.set_ | apply qr | apply qq | apply qt) | exact HK.out)) hk (.inl rfl)); replace HB := qb.mk (hb); replace HI0 := qb.mk (hi); (try clear hb); (try clear hb2); (try clear hk); (try clear hi)) | (go_at_call 86; (with_reducible refine (qK.calls g s0_0 t378 t379 (a2.size : Int) t380 t381 t382 w0 _ ?side1 ?side2 A10.out).mono ?_); (case side1 => repeat (first | (with_reducible first | exact HI0.out | apply qd.alloc | apply qd.drewN | apply qd.drew | apply qd.set_1 | apply qd.set_2) | exact HI0.out)); (case side2 => repeat (first | (with_reducible first | exact HB.out | apply qf | apply qg | apply qe | refine qk ?_ (qd.ge HI0.out)) | exact HB.out)); rintro e w23 ⟨rfl, hi, hb, hk⟩; replace HK := qb.mk (qh.trans (by repeat (first | (with_reducible first | exact HK.out | apply qh.set_ | apply qr | apply qq | apply qt) | exact HK.out)) hk (.inl rfl)); replace HB := qb.mk (hb); replace HI0 := qb.mk (hi); (try clear hb); (try clear hb2); (try clear hk); (try clear hi); have p13 : 0 ≤ (t380 : Int) := of_decide_eq_true (by first | (with_reducible assumption) | assumption); have q13 : t380 < (a2.size : Int) := of_decide_eq_true (by first | (with_reducible assumption) | assumption); have hx13 := bt_at a2 t380; replace p13 := eq_true p13; replace q13 := eq_true q13) | ((with_reducible refine qcb (N := 32) rfl ?_); (try (refine qub (by rfl) ?_; dsimp only)); refine Kd.R_lit (Kd.int .u8) _ 5 ?hg (N := 32) ?hd (xs := ([bt a2 t380] : List Int)) (inner := [.int .u8 (bt a2 t380)]) (ok := fun _ => True) (okp := fun _ => True) ?hr ?hp (fun _ hk => hk) trivial (Below.refl _ _) (Nat.le_refl _) (by simp) ?_; (case hd => rfl); (case hg => rfl); (case hr => first | (go_simp; done) | (go_simp; rfl)); (case hp => exact (Reps.one (show Kd.M (Kd.int .u8) _ _ _ (bt a2 t380) [.int .u8 (bt a2 t380)] from rfl) (Reps.none _ _))); intro v384 w24 ho25 hb hg_ hnew_; clear hg_ hnew_; (first | rw [← Ny383.out] at ho25 | (simp only [Int.reduceToNat] at ho25; rw [← Ny383.out] at ho25)); have HO385 := qb.mk (Kd.qU ho25 (qob (w := w) (g := g) (row := none) (by repeat (first | (with_reducible first | exact HK.out | apply qh.set_ | apply qr | apply qq | apply qt) | exact HK.out)))); replace HK := qb.mk (qh.trans (by repeat (first | (with_reducible first | exact HK.out | apply qh.set_ | apply qr | apply qq | apply qt) | exact HK.out)) (qh.of_below hb g none) (.inl rfl)); replace HB := qb.mk (qE (by repeat (first | (with_reducible first | exact HB.out | apply qf | apply qg | apply qe | refine qk ?_ (qd.ge HI0.out)) | exact HB.out)) hb); replace HI0 := qb.mk (qd.below (by repeat (first | (with_reducible first | exact HI0.out | apply qd.alloc | apply qd.drewN | apply qd.drew | apply qd.set_1 | apply qd.set_2) | exact HI0.out)) hb); clear hb ho25; have hcv26 := qRb (P := Try.prog) Try.underlying38 Try.underlying5 Try.underlying9 (Kd.qQb HO385.out)) | (go_at_call 86; (with_reducible refine (qK.calls g s0_0 t381 t382 3 t386 t387 t388 w0 _ ?side1 ?side2 A14.out).mono ?_); (case side1 => repeat (first | (with_reducible first | exact HI0.out | apply qd.alloc | apply qd.drewN | apply qd.drew | apply qd.set_1 | apply qd.set_2) | exact HI0.out)); (case side2 => repeat (first | (with_reducible first | exact HB.out | apply qf | apply qg | apply qe | refine qk ?_ (qd.ge HI0.out)) | exact HB.out)); rintro e w27 ⟨rfl, hi, hb, hk⟩; replace HO385 := qb.mk (Kd.qF (Kd.qeb (qd.apart (show qd w0 _ g s0_0 t381 t382 from by repeat (first | (with_reducible first | exact HI0.out | apply qd.alloc | apply qd.drewN | apply qd.drew | apply qd.set_1 | apply qd.set_2) | exact HI0.out)) (by (with_reducible repeat (first | apply Kd.qo | apply Kd.qn | apply Kd.qm)); exact HO385.out) (by decide)) hk (fun _ h => h.2)) (fun _ h => h.1)); replace HK := qb.mk (qh.trans (by repeat (first | (with_reducible first | exact HK.out | apply qh.set_ | apply qr | apply qq | apply qt) | exact HK.out)) hk (.inl rfl)); replace HB := qb.mk (hb); replace HI0 := qb.mk (hi); (try clear hb); (try clear hb2); (try clear hk); (try clear hi))))
             go_roundg kj5
             case measure => have := HK1.out; have := HJ5.out; omega
             case rel => exact ⟨(((x1_1.extract 0 (t377 : Int).toNat) ++ (strOfNums y383)) ++ (x1_1.extract (t377 : Int).toNat x1_1.size)), (wrap64 (x7_1 - 1)), (t387), (t388), (by first | rfl | (simp; done) | (simp [*]; done)), (by first | rfl | (simp; done) | (simp [*]; done)), H', ⟨by have := HK1.out; have := HJ5.out; omega⟩, ⟨by repeat (first | (with_reducible first | exact HI0.out | apply qd.alloc | apply qd.drewN | apply qd.drew | apply qd.set_1 | apply qd.set_2) | exact HI0.out)⟩, ⟨by repeat (first | (with_reducible first | exact HK.out | apply qh.set_ | apply qr | apply qq | apply qt) | exact HK.out)⟩, ⟨by repeat (first | (with_reducible first | exact HB.out | apply qf | apply qg | apply qe | refine qk ?_ (qd.ge HI0.out)) | exact HB.out)⟩⟩
            ·rw [if_neg c21] at H
             exact absurd H (by simp)
           ·rw [if_neg c18] at H
            exact absurd H (by simp)
          ·rw [if_neg c17] at H
           exact absurd H (by simp)
         ·rw [if_neg c16] at H
          exact absurd H (by simp)
        ·rw [if_neg c15] at H
         have c15b0 : (t386 == 0) = false := beq_eq_false_iff_ne.mpr c15
         have c15b1 : (t386 != 0) = true := bne_iff_ne.mpr c15
         by_cases c28 : t386 = 1
         ·rw [if_pos c28] at H
          have c28b0 : (t386 == 1) = true := beq_iff_eq.mpr c28
          have c28b1 : (t386 != 1) = false := bne_eq_false_iff_eq.mpr c28
          clear c28
          by_cases c29 : 0 ≤ t377
          ·rw [if_pos c29] at H
           have c29b0 := eq_true c29
           have c29b1 : decide (0 ≤ t377) = true := decide_eq_true c29
           clear c29
           by_cases c30 : t377 ≤ (x1_1.size : Int)
           ·rw [if_pos c30] at H
            have c30b0 := eq_true c30
            have c30b1 : decide (t377 ≤ (x1_1.size : Int)) = true := decide_eq_true c30
            clear c30
            by_cases c31 : (x1_1.extract 0 (t377 : Int).toNat).size + (strOfNums y383).size ≤ 9223372036854775807
            ·rw [if_pos c31] at H
             have c31b0 := eq_true c31
             have c31b1 : decide ((x1_1.extract 0 (t377 : Int).toNat).size + (strOfNums y383).size ≤ 9223372036854775807) = true := decide_eq_true c31
             try have c31b2 : (9223372036854775807 < (x1_1.extract 0 (t377 : Int).toNat).size + (strOfNums y383).size) = False := eq_false (Nat.not_lt.2 c31)
             have c31b3 : ∀ m_ n_ : Nat, m_ = (x1_1.extract 0 (t377 : Int).toNat).size → n_ = (strOfNums y383).size → (9223372036854775807 < m_ + n_) = False := fun m_ n_ h1_ h2_ => by rw [h1_, h2_]; exact eq_false (Nat.not_lt.2 c31)
             obtain ⟨ji32, hji32⟩ : ∃ j_ : Int, (wrap64 (t377 + 1)) = j_ := ⟨_, rfl⟩
             replace H : (if 0 ≤ (ji32) then (if (ji32) ≤ (x1_1.size : Int) then (if ((x1_1.extract 0 (t377 : Int).toNat) ++ (strOfNums y383)).size + (x1_1.extract ((ji32) : Int).toNat x1_1.size).size ≤ 9223372036854775807 then (qbb.l0 kj5 (((x1_1.extract 0 (t377 : Int).toNat) ++ (strOfNums y383)) ++ (x1_1.extract ((ji32) : Int).toNat x1_1.size)) a2 (wrap64 (x7_1 - 1)) s0_0 t387 t388) else (none)) else (none)) else (none)) = some (r1, r2, r3) := by first | (rw [hji32] at H; exact H) | (simp only [hji32] at H ⊢; exact H)
             (try rw [hji32] at A9)
             (try rw [hji32] at A10)
             (try rw [hji32] at A14)
             have hji32w : (IntKind.i64.wrap (t377 + 1)) = ji32 := (i64_w _).trans hji32
             by_cases c33 : 0 ≤ (ji32)
             ·rw [if_pos c33] at H
              have c33b0 := eq_true c33
              have c33b1 : decide (0 ≤ (ji32)) = true := decide_eq_true c33
              clear c33
              by_cases c34 : (ji32) ≤ (x1_1.size : Int)
              ·rw [if_pos c34] at H
               have c34b0 := eq_true c34
               have c34b1 : decide ((ji32) ≤ (x1_1.size : Int)) = true := decide_eq_true c34
               clear c34
               by_cases c35 : ((x1_1.extract 0 (t377 : Int).toNat) ++ (strOfNums y383)).size + (x1_1.extract ((ji32) : Int).toNat x1_1.size).size ≤ 9223372036854775807
               ·rw [if_pos c35] at H
                have c35b0 := eq_true c35
                have c35b1 : decide (((x1_1.extract 0 (t377 : Int).toNat) ++ (strOfNums y383)).size + (x1_1.extract ((ji32) : Int).toNat x1_1.size).size ≤ 9223372036854775807) = true := decide_eq_true c35
                try have c35b2 : (9223372036854775807 < ((x1_1.extract 0 (t377 : Int).toNat) ++ (strOfNums y383)).size + (x1_1.extract ((ji32) : Int).toNat x1_1.size).size) = False := eq_false (Nat.not_lt.2 c35)
                have c35b3 : ∀ m_ n_ : Nat, m_ = ((x1_1.extract 0 (t377 : Int).toNat) ++ (strOfNums y383)).size → n_ = (x1_1.extract ((ji32) : Int).toNat x1_1.size).size → (9223372036854775807 < m_ + n_) = False := fun m_ n_ h1_ h2_ => by rw [h1_, h2_]; exact eq_false (Nat.not_lt.2 c35)
                have H' := qb.mk H
                clear H
                go_wp2_with (first | (go_at_call 86; (with_reducible refine (qK.calls g s0_0 x1001_1 x1002_1 (x1_1.size : Int) t377 t378 t379 w0 _ ?side1 ?side2 A9.out).mono ?_); (case side1 => repeat (first | (with_reducible first | exact HI0.out | apply qd.alloc | apply qd.drewN | apply qd.drew | apply qd.set_1 | apply qd.set_2) | exact HI0.out)); (case side2 => repeat (first | (with_reducible first | exact HB.out | apply qf | apply qg | apply qe | refine qk ?_ (qd.ge HI0.out)) | exact HB.out)); rintro e w36 ⟨rfl, hi, hb, hk⟩; replace HK := qb.mk (qh.trans (by repeat (first | (with_reducible first | exact HK.out | apply qh.set_ | apply qr | apply qq | apply qt) | exact HK.out)) hk (.inl rfl)); replace HB := qb.mk (hb); replace HI0 := qb.mk (hi); (try clear hb); (try clear hb2); (try clear hk); (try clear hi)) | (go_at_call 86; (with_reducible refine (qK.calls g s0_0 t378 t379 (a2.size : Int) t380 t381 t382 w0 _ ?side1 ?side2 A10.out).mono ?_); (case side1 => repeat (first | (with_reducible first | exact HI0.out | apply qd.alloc | apply qd.drewN | apply qd.drew | apply qd.set_1 | apply qd.set_2) | exact HI0.out)); (case side2 => repeat (first | (with_reducible first | exact HB.out | apply qf | apply qg | apply qe | refine qk ?_ (qd.ge HI0.out)) | exact HB.out)); rintro e w37 ⟨rfl, hi, hb, hk⟩; replace HK := qb.mk (qh.trans (by repeat (first | (with_reducible first | exact HK.out | apply qh.set_ | apply qr | apply qq | apply qt) | exact HK.out)) hk (.inl rfl)); replace HB := qb.mk (hb); replace HI0 := qb.mk (hi); (try clear hb); (try clear hb2); (try clear hk); (try clear hi); have p13 : 0 ≤ (t380 : Int) := of_decide_eq_true (by first | (with_reducible assumption) | assumption); have q13 : t380 < (a2.size : Int) := of_decide_eq_true (by first | (with_reducible assumption) | assumption); have hx13 := bt_at a2 t380; replace p13 := eq_true p13; replace q13 := eq_true q13) | ((with_reducible refine qcb (N := 32) rfl ?_); (try (refine qub (by rfl) ?_; dsimp only)); refine Kd.R_lit (Kd.int .u8) _ 5 ?hg (N := 32) ?hd (xs := ([bt a2 t380] : List Int)) (inner := [.int .u8 (bt a2 t380)]) (ok := fun _ => True) (okp := fun _ => True) ?hr ?hp (fun _ hk => hk) trivial (Below.refl _ _) (Nat.le_refl _) (by simp) ?_; (case hd => rfl); (case hg => rfl); (case hr => first | (go_simp; done) | (go_simp; rfl)); (case hp => exact (Reps.one (show Kd.M (Kd.int .u8) _ _ _ (bt a2 t380) [.int .u8 (bt a2 t380)] from rfl) (Reps.none _ _))); intro v384 w38 ho39 hb hg_ hnew_; clear hg_ hnew_; (first | rw [← Ny383.out] at ho39 | (simp only [Int.reduceToNat] at ho39; rw [← Ny383.out] at ho39)); have HO385 := qb.mk (Kd.qU ho39 (qob (w := w) (g := g) (row := none) (by repeat (first | (with_reducible first | exact HK.out | apply qh.set_ | apply qr | apply qq | apply qt) | exact HK.out)))); replace HK := qb.mk (qh.trans (by repeat (first | (with_reducible first | exact HK.out | apply qh.set_ | apply qr | apply qq | apply qt) | exact HK.out)) (qh.of_below hb g none) (.inl rfl)); replace HB := qb.mk (qE (by repeat (first | (with_reducible first | exact HB.out | apply qf | apply qg | apply qe | refine qk ?_ (qd.ge HI0.out)) | exact HB.out)) hb); replace HI0 := qb.mk (qd.below (by repeat (first | (with_reducible first | exact HI0.out | apply qd.alloc | apply qd.drewN | apply qd.drew | apply qd.set_1 | apply qd.set_2) | exact HI0.out)) hb); clear hb ho39; have hcv40 := qRb (P := Try.prog) Try.underlying38 Try.underlying5 Try.underlying9 (Kd.qQb HO385.out)) | (go_at_call 86; (with_reducible refine (qK.calls g s0_0 t381 t382 3 t386 t387 t388 w0 _ ?side1 ?side2 A14.out).mono ?_); (case side1 => repeat (first | (with_reducible first | exact HI0.out | apply qd.alloc | apply qd.drewN | apply qd.drew | apply qd.set_1 | apply qd.set_2) | exact HI0.out)); (case side2 => repeat (first | (with_reducible first | exact HB.out | apply qf | apply qg | apply qe | refine qk ?_ (qd.ge HI0.out)) | exact HB.out)); rintro e w41 ⟨rfl, hi, hb, hk⟩; replace HO385 := qb.mk (Kd.qF (Kd.qeb (qd.apart (show qd w0 _ g s0_0 t381 t382 from by repeat (first | (with_reducible first | exact HI0.out | apply qd.alloc | apply qd.drewN | apply qd.drew | apply qd.set_1 | apply qd.set_2) | exact HI0.out)) (by (with_reducible repeat (first | apply Kd.qo | apply Kd.qn | apply Kd.qm)); exact HO385.out) (by decide)) hk (fun _ h => h.2)) (fun _ h => h.1)); replace HK := qb.mk (qh.trans (by repeat (first | (with_reducible first | exact HK.out | apply qh.set_ | apply qr | apply qq | apply qt) | exact HK.out)) hk (.inl rfl)); replace HB := qb.mk (hb); replace HI0 := qb.mk (hi); (try clear hb); (try clear hb2); (try clear hk); (try clear hi)))
                repeat (go_quiet (first | (go_at_call 86; (with_reducible refine (qK.calls g s0_0 x1001_1 x1002_1 (x1_1.size : Int) t377 t378 t379 w0 _ ?side1 ?side2 A9.out).mono ?_); (case side1 => repeat (first | (with_reducible first | exact HI0.out | apply qd.alloc | apply qd.drewN | apply qd.drew | apply qd.set_1 | apply qd.set_2) | exact HI0.out)); (case side2 => repeat (first | (with_reducible first | exact HB.out | apply qf | apply qg | apply qe | refine qk ?_ (qd.ge HI0.out)) | exact HB.out)); rintro e w36 ⟨rfl, hi, hb, hk⟩; replace HK := qb.mk (qh.trans (by repeat (first | (with_reducible first | exact HK.out | apply qh.set_ | apply qr | apply qq | apply qt) | exact HK.out)) hk (.inl rfl)); replace HB := qb.mk (hb); replace HI0 := qb.mk (hi); (try clear hb); (try clear hb2); (try clear hk); (try clear hi)) | (go_at_call 86; (with_reducible refine (qK.calls g s0_0 t378 t379 (a2.size : Int) t380 t381 t382 w0 _ ?side1 ?side2 A10.out).mono ?_); (case side1 => repeat (first | (with_reducible first | exact HI0.out | apply qd.alloc | apply qd.drewN | apply qd.drew | apply qd.set_1 | apply qd.set_2) | exact HI0.out)); (case side2 => repeat (first | (with_reducible first | exact HB.out | apply qf | apply qg | apply qe | refine qk ?_ (qd.ge HI0.out)) | exact HB.out)); rintro e w37 ⟨rfl, hi, hb, hk⟩; replace HK := qb.mk (qh.trans (by repeat (first | (with_reducible first | exact HK.out | apply qh.set_ | apply qr | apply qq | apply qt) | exact HK.out)) hk (.inl rfl)); replace HB := qb.mk (hb); replace HI0 := qb.mk (hi); (try clear hb); (try clear hb2); (try clear hk); (try clear hi); have p13 : 0 ≤ (t380 : Int) := of_decide_eq_true (by first | (with_reducible assumption) | assumption); have q13 : t380 < (a2.size : Int) := of_decide_eq_true (by first | (with_reducible assumption) | assumption); have hx13 := bt_at a2 t380; replace p13 := eq_true p13; replace q13 := eq_true q13) | ((with_reducible refine qcb (N := 32) rfl ?_); (try (refine qub (by rfl) ?_; dsimp only)); refine Kd.R_lit (Kd.int .u8) _ 5 ?hg (N := 32) ?hd (xs := ([bt a2 t380] : List Int)) (inner := [.int .u8 (bt a2 t380)]) (ok := fun _ => True) (okp := fun _ => True) ?hr ?hp (fun _ hk => hk) trivial (Below.refl _ _) (Nat.le_refl _) (by simp) ?_; (case hd => rfl); (case hg => rfl); (case hr => first | (go_simp; done) | (go_simp; rfl)); (case hp => exact (Reps.one (show Kd.M (Kd.int .u8) _ _ _ (bt a2 t380) [.int .u8 (bt a2 t380)] from rfl) (Reps.none _ _))); intro v384 w38 ho39 hb hg_ hnew_; clear hg_ hnew_; (first | rw [← Ny383.out] at ho39 | (simp only [Int.reduceToNat] at ho39; rw [← Ny383.out] at ho39)); have HO385 := qb.mk (Kd.qU ho39 (qob (w := w) (g := g) (row := none) (by repeat (first | (with_reducible first | exact HK.out | apply qh.set_ | apply qr | apply qq | apply qt) | exact HK.out)))); replace HK := qb.mk (qh.trans (by repeat (first | (with_reducible first | exact HK.out | apply qh.set_ | apply qr | apply qq | apply qt) | exact HK.out)) (qh.of_below hb g none) (.inl rfl)); replace HB := qb.mk (qE (by repeat (first | (with_reducible first | exact HB.out | apply qf | apply qg | apply qe | refine qk ?_ (qd.ge HI0.out)) | exact HB.out)) hb); replace HI0 := qb.mk (qd.below (by repeat (first | (with_reducible first | exact HI0.out | apply qd.alloc | apply qd.drewN | apply qd.drew | apply qd.set_1 | apply qd.set_2) | exact HI0.out)) hb); clear hb ho39; have hcv40 := qRb (P := Try.prog) Try.underlying38 Try.underlying5 Try.underlying9 (Kd.qQb HO385.out)) | (go_at_call 86; (with_reducible refine (qK.calls g s0_0 t381 t382 3 t386 t387 t388 w0 _ ?side1 ?side2 A14.out).mono ?_); (case side1 => repeat (first | (with_reducible first | exact HI0.out | apply qd.alloc | apply qd.drewN | apply qd.drew | apply qd.set_1 | apply qd.set_2) | exact HI0.out)); (case side2 => repeat (first | (with_reducible first | exact HB.out | apply qf | apply qg | apply qe | refine qk ?_ (qd.ge HI0.out)) | exact HB.out)); rintro e w41 ⟨rfl, hi, hb, hk⟩; replace HO385 := qb.mk (Kd.qF (Kd.qeb (qd.apart (show qd w0 _ g s0_0 t381 t382 from by repeat (first | (with_reducible first | exact HI0.out | apply qd.alloc | apply qd.drewN | apply qd.drew | apply qd.set_1 | apply qd.set_2) | exact HI0.out)) (by (with_reducible repeat (first | apply Kd.qo | apply Kd.qn | apply Kd.qm)); exact HO385.out) (by decide)) hk (fun _ h => h.2)) (fun _ h => h.1)); replace HK := qb.mk (qh.trans (by repeat (first | (with_reducible first | exact HK.out | apply qh.set_ | apply qr | apply qq | apply qt) | exact HK.out)) hk (.inl rfl)); replace HB := qb.mk (hb); replace HI0 := qb.mk (hi); (try clear hb); (try clear hb2); (try clear hk); (try clear hi))); try go_wp2_with (first | (go_at_call 86; (with_reducible refine (qK.calls g s0_0 x1001_1 x1002_1 (x1_1.size : Int) t377 t378 t379 w0 _ ?side1 ?side2 A9.out).mono ?_); (case side1 => repeat (first | (with_reducible first | exact HI0.out | apply qd.alloc | apply qd.drewN | apply qd.drew | apply qd.set_1 | apply qd.set_2) | exact HI0.out)); (case side2 => repeat (first | (with_reducible first | exact HB.out | apply qf | apply qg | apply qe | refine qk ?_ (qd.ge HI0.out)) | exact HB.out)); rintro e w36 ⟨rfl, hi, hb, hk⟩; replace HK := qb.mk (qh.trans (by repeat (first | (with_reducible first | exact HK.out | apply qh.set_ | apply qr | apply qq | apply qt) | exact HK.out)) hk (.inl rfl)); replace HB := qb.mk (hb); replace HI0 := qb.mk (hi); (try clear hb); (try clear hb2); (try clear hk); (try clear hi)) | (go_at_call 86; (with_reducible refine (qK.calls g s0_0 t378 t379 (a2.size : Int) t380 t381 t382 w0 _ ?side1 ?side2 A10.out).mono ?_); (case side1 => repeat (first | (with_reducible first | exact HI0.out | apply qd.alloc | apply qd.drewN | apply qd.drew | apply qd.set_1 | apply qd.set_2) | exact HI0.out)); (case side2 => repeat (first | (with_reducible first | exact HB.out | apply qf | apply qg | apply qe | refine qk ?_ (qd.ge HI0.out)) | exact HB.out)); rintro e w37 ⟨rfl, hi, hb, hk⟩; replace HK := qb.mk (qh.trans (by repeat (first | (with_reducible first | exact HK.out | apply qh.set_ | apply qr | apply qq | apply qt) | exact HK.out)) hk (.inl rfl)); replace HB := qb.mk (hb); replace HI0 := qb.mk (hi); (try clear hb); (try clear hb2); (try clear hk); (try clear hi); have p13 : 0 ≤ (t380 : Int) := of_decide_eq_true (by first | (with_reducible assumption) | assumption); have q13 : t380 < (a2.size : Int) := of_decide_eq_true (by first | (with_reducible assumption) | assumption); have hx13 := bt_at a2 t380; replace p13 := eq_true p13; replace q13 := eq_true q13) | ((with_reducible refine qcb (N := 32) rfl ?_); (try (refine qub (by rfl) ?_; dsimp only)); refine Kd.R_lit (Kd.int .u8) _ 5 ?hg (N := 32) ?hd (xs := ([bt a2 t380] : List Int)) (inner := [.int .u8 (bt a2 t380)]) (ok := fun _ => True) (okp := fun _ => True) ?hr ?hp (fun _ hk => hk) trivial (Below.refl _ _) (Nat.le_refl _) (by simp) ?_; (case hd => rfl); (case hg => rfl); (case hr => first | (go_simp; done) | (go_simp; rfl)); (case hp => exact (Reps.one (show Kd.M (Kd.int .u8) _ _ _ (bt a2 t380) [.int .u8 (bt a2 t380)] from rfl) (Reps.none _ _))); intro v384 w38 ho39 hb hg_ hnew_; clear hg_ hnew_; (first | rw [← Ny383.out] at ho39 | (simp only [Int.reduceToNat] at ho39; rw [← Ny383.out] at ho39)); have HO385 := qb.mk (Kd.qU ho39 (qob (w := w) (g := g) (row := none) (by repeat (first | (with_reducible first | exact HK.out | apply qh.set_ | apply qr | apply qq | apply qt) | exact HK.out)))); replace HK := qb.mk (qh.trans (by repeat (first | (with_reducible first | exact HK.out | apply qh.set_ | apply qr | apply qq | apply qt) | exact HK.out)) (qh.of_below hb g none) (.inl rfl)); replace HB := qb.mk (qE (by repeat (first | (with_reducible first | exact HB.out | apply qf | apply qg | apply qe | refine qk ?_ (qd.ge HI0.out)) | exact HB.out)) hb); replace HI0 := qb.mk (qd.below (by repeat (first | (with_reducible first | exact HI0.out | apply qd.alloc | apply qd.drewN | apply qd.drew | apply qd.set_1 | apply qd.set_2) | exact HI0.out)) hb); clear hb ho39; have hcv40 := qRb (P := Try.prog) Try.underlying38 Try.underlying5 Try.underlying9 (Kd.qQb HO385.out)) | (go_at_call 86; (with_reducible refine (qK.calls g s0_0 t381 t382 3 t386 t387 t388 w0 _ ?side1 ?side2 A14.out).mono ?_); (case side1 => repeat (first | (with_reducible first | exact HI0.out | apply qd.alloc | apply qd.drewN | apply qd.drew | apply qd.set_1 | apply qd.set_2) | exact HI0.out)); (case side2 => repeat (first | (with_reducible first | exact HB.out | apply qf | apply qg | apply qe | refine qk ?_ (qd.ge HI0.out)) | exact HB.out)); rintro e w41 ⟨rfl, hi, hb, hk⟩; replace HO385 := qb.mk (Kd.qF (Kd.qeb (qd.apart (show qd w0 _ g s0_0 t381 t382 from by repeat (first | (with_reducible first | exact HI0.out | apply qd.alloc | apply qd.drewN | apply qd.drew | apply qd.set_1 | apply qd.set_2) | exact HI0.out)) (by (with_reducible repeat (first | apply Kd.qo | apply Kd.qn | apply Kd.qm)); exact HO385.out) (by decide)) hk (fun _ h => h.2)) (fun _ h => h.1)); replace HK := qb.mk (qh.trans (by repeat (first | (with_reducible first | exact HK.out | apply qh.set_ | apply qr | apply qq | apply qt) | exact HK.out)) hk (.inl rfl)); replace HB := qb.mk (hb); replace HI0 := qb.mk (hi); (try clear hb); (try clear hb2); (try clear hk); (try clear hi))))
                go_roundg kj5
                case measure => have := HK1.out; have := HJ5.out; omega
                case rel => exact ⟨(((x1_1.extract 0 (t377 : Int).toNat) ++ (strOfNums y383)) ++ (x1_1.extract ((ji32) : Int).toNat x1_1.size)), (wrap64 (x7_1 - 1)), (t387), (t388), (by first | rfl | (simp; done) | (simp only [← hji32] <;> (first | rfl | simp)) | (simp [*]; done)), (by first | rfl | (simp; done) | (simp [*]; done)), H', ⟨by have := HK1.out; have := HJ5.out; omega⟩, ⟨by repeat (first | (with_reducible first | exact HI0.out | apply qd.alloc | apply qd.drewN | apply qd.drew | apply qd.set_1 | apply qd.set_2) | exact HI0.out)⟩, ⟨by repeat (first | (with_reducible first | exact HK.out | apply qh.set_ | apply qr | apply qq | apply qt) | exact HK.out)⟩, ⟨by repeat (first | (with_reducible first | exact HB.out | apply qf | apply qg | apply qe | refine qk ?_ (qd.ge HI0.out)) | exact HB.out)⟩⟩
               ·rw [if_neg c35] at H
                exact absurd H (by simp)
              ·rw [if_neg c34] at H
               exact absurd H (by simp)
             ·rw [if_neg c33] at H
              exact absurd H (by simp)
            ·rw [if_neg c31] at H
             exact absurd H (by simp)
           ·rw [if_neg c30] at H
            exact absurd H (by simp)
          ·rw [if_neg c29] at H
           exact absurd H (by simp)
         ·rw [if_neg c28] at H
          have c28b0 : (t386 == 1) = false := beq_eq_false_iff_ne.mpr c28
          have c28b1 : (t386 != 1) = true := bne_iff_ne.mpr c28
          by_cases c42 : 0 ≤ t377
          ·rw [if_pos c42] at H
           have c42b0 := eq_true c42
           have c42b1 : decide (0 ≤ t377) = true := decide_eq_true c42
           clear c42
           by_cases c43 : t377 ≤ (x1_1.size : Int)
           ·rw [if_pos c43] at H
            have c43b0 := eq_true c43
            have c43b1 : decide (t377 ≤ (x1_1.size : Int)) = true := decide_eq_true c43
            clear c43
            obtain ⟨ji44, hji44⟩ : ∃ j_ : Int, (wrap64 (t377 + 1)) = j_ := ⟨_, rfl⟩
            replace H : (if 0 ≤ (ji44) then (if (ji44) ≤ (x1_1.size : Int) then (if (x1_1.extract 0 (t377 : Int).toNat).size + (x1_1.extract ((ji44) : Int).toNat x1_1.size).size ≤ 9223372036854775807 then (qbb.l0 kj5 ((x1_1.extract 0 (t377 : Int).toNat) ++ (x1_1.extract ((ji44) : Int).toNat x1_1.size)) a2 (wrap64 (x7_1 - 1)) s0_0 t387 t388) else (none)) else (none)) else (none)) = some (r1, r2, r3) := by first | (rw [hji44] at H; exact H) | (simp only [hji44] at H ⊢; exact H)
            (try rw [hji44] at A9)
            (try rw [hji44] at A10)
            (try rw [hji44] at A14)
            have hji44w : (IntKind.i64.wrap (t377 + 1)) = ji44 := (i64_w _).trans hji44
            by_cases c45 : 0 ≤ (ji44)
            ·rw [if_pos c45] at H
             have c45b0 := eq_true c45
             have c45b1 : decide (0 ≤ (ji44)) = true := decide_eq_true c45
             clear c45
             by_cases c46 : (ji44) ≤ (x1_1.size : Int)
             ·rw [if_pos c46] at H
              have c46b0 := eq_true c46
              have c46b1 : decide ((ji44) ≤ (x1_1.size : Int)) = true := decide_eq_true c46
              clear c46
              by_cases c47 : (x1_1.extract 0 (t377 : Int).toNat).size + (x1_1.extract ((ji44) : Int).toNat x1_1.size).size ≤ 9223372036854775807
              ·rw [if_pos c47] at H
               have c47b0 := eq_true c47
               have c47b1 : decide ((x1_1.extract 0 (t377 : Int).toNat).size + (x1_1.extract ((ji44) : Int).toNat x1_1.size).size ≤ 9223372036854775807) = true := decide_eq_true c47
               try have c47b2 : (9223372036854775807 < (x1_1.extract 0 (t377 : Int).toNat).size + (x1_1.extract ((ji44) : Int).toNat x1_1.size).size) = False := eq_false (Nat.not_lt.2 c47)
               have c47b3 : ∀ m_ n_ : Nat, m_ = (x1_1.extract 0 (t377 : Int).toNat).size → n_ = (x1_1.extract ((ji44) : Int).toNat x1_1.size).size → (9223372036854775807 < m_ + n_) = False := fun m_ n_ h1_ h2_ => by rw [h1_, h2_]; exact eq_false (Nat.not_lt.2 c47)
               have H' := qb.mk H
               clear H
               go_wp2_with (first | (go_at_call 86; (with_reducible refine (qK.calls g s0_0 x1001_1 x1002_1 (x1_1.size : Int) t377 t378 t379 w0 _ ?side1 ?side2 A9.out).mono ?_); (case side1 => repeat (first | (with_reducible first | exact HI0.out | apply qd.alloc | apply qd.drewN | apply qd.drew | apply qd.set_1 | apply qd.set_2) | exact HI0.out)); (case side2 => repeat (first | (with_reducible first | exact HB.out | apply qf | apply qg | apply qe | refine qk ?_ (qd.ge HI0.out)) | exact HB.out)); rintro e w48 ⟨rfl, hi, hb, hk⟩; replace HK := qb.mk (qh.trans (by repeat (first | (with_reducible first | exact HK.out | apply qh.set_ | apply qr | apply qq | apply qt) | exact HK.out)) hk (.inl rfl)); replace HB := qb.mk (hb); replace HI0 := qb.mk (hi); (try clear hb); (try clear hb2); (try clear hk); (try clear hi)) | (go_at_call 86; (with_reducible refine (qK.calls g s0_0 t378 t379 (a2.size : Int) t380 t381 t382 w0 _ ?side1 ?side2 A10.out).mono ?_); (case side1 => repeat (first | (with_reducible first | exact HI0.out | apply qd.alloc | apply qd.drewN | apply qd.drew | apply qd.set_1 | apply qd.set_2) | exact HI0.out)); (case side2 => repeat (first | (with_reducible first | exact HB.out | apply qf | apply qg | apply qe | refine qk ?_ (qd.ge HI0.out)) | exact HB.out)); rintro e w49 ⟨rfl, hi, hb, hk⟩; replace HK := qb.mk (qh.trans (by repeat (first | (with_reducible first | exact HK.out | apply qh.set_ | apply qr | apply qq | apply qt) | exact HK.out)) hk (.inl rfl)); replace HB := qb.mk (hb); replace HI0 := qb.mk (hi); (try clear hb); (try clear hb2); (try clear hk); (try clear hi); have p13 : 0 ≤ (t380 : Int) := of_decide_eq_true (by first | (with_reducible assumption) | assumption); have q13 : t380 < (a2.size : Int) := of_decide_eq_true (by first | (with_reducible assumption) | assumption); have hx13 := bt_at a2 t380; replace p13 := eq_true p13; replace q13 := eq_true q13) | ((with_reducible refine qcb (N := 32) rfl ?_); (try (refine qub (by rfl) ?_; dsimp only)); refine Kd.R_lit (Kd.int .u8) _ 5 ?hg (N := 32) ?hd (xs := ([bt a2 t380] : List Int)) (inner := [.int .u8 (bt a2 t380)]) (ok := fun _ => True) (okp := fun _ => True) ?hr ?hp (fun _ hk => hk) trivial (Below.refl _ _) (Nat.le_refl _) (by simp) ?_; (case hd => rfl); (case hg => rfl); (case hr => first | (go_simp; done) | (go_simp; rfl)); (case hp => exact (Reps.one (show Kd.M (Kd.int .u8) _ _ _ (bt a2 t380) [.int .u8 (bt a2 t380)] from rfl) (Reps.none _ _))); intro v384 w50 ho51 hb hg_ hnew_; clear hg_ hnew_; (first | rw [← Ny383.out] at ho51 | (simp only [Int.reduceToNat] at ho51; rw [← Ny383.out] at ho51)); have HO385 := qb.mk (Kd.qU ho51 (qob (w := w) (g := g) (row := none) (by repeat (first | (with_reducible first | exact HK.out | apply qh.set_ | apply qr | apply qq | apply qt) | exact HK.out)))); replace HK := qb.mk (qh.trans (by repeat (first | (with_reducible first | exact HK.out | apply qh.set_ | apply qr | apply qq | apply qt) | exact HK.out)) (qh.of_below hb g none) (.inl rfl)); replace HB := qb.mk (qE (by repeat (first | (with_reducible first | exact HB.out | apply qf | apply qg | apply qe | refine qk ?_ (qd.ge HI0.out)) | exact HB.out)) hb); replace HI0 := qb.mk (qd.below (by repeat (first | (with_reducible first | exact HI0.out | apply qd.alloc | apply qd.drewN | apply qd.drew | apply qd.set_1 | apply qd.set_2) | exact HI0.out)) hb); clear hb ho51; have hcv52 := qRb (P := Try.prog) Try.underlying38 Try.underlying5 Try.underlying9 (Kd.qQb HO385.out)) | (go_at_call 86; (with_reducible refine (qK.calls g s0_0 t381 t382 3 t386 t387 t388 w0 _ ?side1 ?side2 A14.out).mono ?_); (case side1 => repeat (first | (with_reducible first | exact HI0.out | apply qd.alloc | apply qd.drewN | apply qd.drew | apply qd.set_1 | apply qd.set_2) | exact HI0.out)); (case side2 => repeat (first | (with_reducible first | exact HB.out | apply qf | apply qg | apply qe | refine qk ?_ (qd.ge HI0.out)) | exact HB.out)); rintro e w53 ⟨rfl, hi, hb, hk⟩; replace HO385 := qb.mk (Kd.qF (Kd.qeb (qd.apart (show qd w0 _ g s0_0 t381 t382 from by repeat (first | (with_reducible first | exact HI0.out | apply qd.alloc | apply qd.drewN | apply qd.drew | apply qd.set_1 | apply qd.set_2) | exact HI0.out)) (by (with_reducible repeat (first | apply Kd.qo | apply Kd.qn | apply Kd.qm)); exact HO385.out) (by decide)) hk (fun _ h => h.2)) (fun _ h => h.1)); replace HK := qb.mk (qh.trans (by repeat (first | (with_reducible first | exact HK.out | apply qh.set_ | apply qr | apply qq | apply qt) | exact HK.out)) hk (.inl rfl)); replace HB := qb.mk (hb); replace HI0 := qb.mk (hi); (try clear hb); (try clear hb2); (try clear hk); (try clear hi)))
               repeat (go_quiet (first | (go_at_call 86; (with_reducible refine (qK.calls g s0_0 x1001_1 x1002_1 (x1_1.size : Int) t377 t378 t379 w0 _ ?side1 ?side2 A9.out).mono ?_); (case side1 => repeat (first | (with_reducible first | exact HI0.out | apply qd.alloc | apply qd.drewN | apply qd.drew | apply qd.set_1 | apply qd.set_2) | exact HI0.out)); (case side2 => repeat (first | (with_reducible first | exact HB.out | apply qf | apply qg | apply qe | refine qk ?_ (qd.ge HI0.out)) | exact HB.out)); rintro e w48 ⟨rfl, hi, hb, hk⟩; replace HK := qb.mk (qh.trans (by repeat (first | (with_reducible first | exact HK.out | apply qh.set_ | apply qr | apply qq | apply qt) | exact HK.out)) hk (.inl rfl)); replace HB := qb.mk (hb); replace HI0 := qb.mk (hi); (try clear hb); (try clear hb2); (try clear hk); (try clear hi)) | (go_at_call 86; (with_reducible refine (qK.calls g s0_0 t378 t379 (a2.size : Int) t380 t381 t382 w0 _ ?side1 ?side2 A10.out).mono ?_); (case side1 => repeat (first | (with_reducible first | exact HI0.out | apply qd.alloc | apply qd.drewN | apply qd.drew | apply qd.set_1 | apply qd.set_2) | exact HI0.out)); (case side2 => repeat (first | (with_reducible first | exact HB.out | apply qf | apply qg | apply qe | refine qk ?_ (qd.ge HI0.out)) | exact HB.out)); rintro e w49 ⟨rfl, hi, hb, hk⟩; replace HK := qb.mk (qh.trans (by repeat (first | (with_reducible first | exact HK.out | apply qh.set_ | apply qr | apply qq | apply qt) | exact HK.out)) hk (.inl rfl)); replace HB := qb.mk (hb); replace HI0 := qb.mk (hi); (try clear hb); (try clear hb2); (try clear hk); (try clear hi); have p13 : 0 ≤ (t380 : Int) := of_decide_eq_true (by first | (with_reducible assumption) | assumption); have q13 : t380 < (a2.size : Int) := of_decide_eq_true (by first | (with_reducible assumption) | assumption); have hx13 := bt_at a2 t380; replace p13 := eq_true p13; replace q13 := eq_true q13) | ((with_reducible refine qcb (N := 32) rfl ?_); (try (refine qub (by rfl) ?_; dsimp only)); refine Kd.R_lit (Kd.int .u8) _ 5 ?hg (N := 32) ?hd (xs := ([bt a2 t380] : List Int)) (inner := [.int .u8 (bt a2 t380)]) (ok := fun _ => True) (okp := fun _ => True) ?hr ?hp (fun _ hk => hk) trivial (Below.refl _ _) (Nat.le_refl _) (by simp) ?_; (case hd => rfl); (case hg => rfl); (case hr => first | (go_simp; done) | (go_simp; rfl)); (case hp => exact (Reps.one (show Kd.M (Kd.int .u8) _ _ _ (bt a2 t380) [.int .u8 (bt a2 t380)] from rfl) (Reps.none _ _))); intro v384 w50 ho51 hb hg_ hnew_; clear hg_ hnew_; (first | rw [← Ny383.out] at ho51 | (simp only [Int.reduceToNat] at ho51; rw [← Ny383.out] at ho51)); have HO385 := qb.mk (Kd.qU ho51 (qob (w := w) (g := g) (row := none) (by repeat (first | (with_reducible first | exact HK.out | apply qh.set_ | apply qr | apply qq | apply qt) | exact HK.out)))); replace HK := qb.mk (qh.trans (by repeat (first | (with_reducible first | exact HK.out | apply qh.set_ | apply qr | apply qq | apply qt) | exact HK.out)) (qh.of_below hb g none) (.inl rfl)); replace HB := qb.mk (qE (by repeat (first | (with_reducible first | exact HB.out | apply qf | apply qg | apply qe | refine qk ?_ (qd.ge HI0.out)) | exact HB.out)) hb); replace HI0 := qb.mk (qd.below (by repeat (first | (with_reducible first | exact HI0.out | apply qd.alloc | apply qd.drewN | apply qd.drew | apply qd.set_1 | apply qd.set_2) | exact HI0.out)) hb); clear hb ho51; have hcv52 := qRb (P := Try.prog) Try.underlying38 Try.underlying5 Try.underlying9 (Kd.qQb HO385.out)) | (go_at_call 86; (with_reducible refine (qK.calls g s0_0 t381 t382 3 t386 t387 t388 w0 _ ?side1 ?side2 A14.out).mono ?_); (case side1 => repeat (first | (with_reducible first | exact HI0.out | apply qd.alloc | apply qd.drewN | apply qd.drew | apply qd.set_1 | apply qd.set_2) | exact HI0.out)); (case side2 => repeat (first | (with_reducible first | exact HB.out | apply qf | apply qg | apply qe | refine qk ?_ (qd.ge HI0.out)) | exact HB.out)); rintro e w53 ⟨rfl, hi, hb, hk⟩; replace HO385 := qb.mk (Kd.qF (Kd.qeb (qd.apart (show qd w0 _ g s0_0 t381 t382 from by repeat (first | (with_reducible first | exact HI0.out | apply qd.alloc | apply qd.drewN | apply qd.drew | apply qd.set_1 | apply qd.set_2) | exact HI0.out)) (by (with_reducible repeat (first | apply Kd.qo | apply Kd.qn | apply Kd.qm)); exact HO385.out) (by decide)) hk (fun _ h => h.2)) (fun _ h => h.1)); replace HK := qb.mk (qh.trans (by repeat (first | (with_reducible first | exact HK.out | apply qh.set_ | apply qr | apply qq | apply qt) | exact HK.out)) hk (.inl rfl)); replace HB := qb.mk (hb); replace HI0 := qb.mk (hi); (try clear hb); (try clear hb2); (try clear hk); (try clear hi))); try go_wp2_with (first | (go_at_call 86; (with_reducible refine (qK.calls g s0_0 x1001_1 x1002_1 (x1_1.size : Int) t377 t378 t379 w0 _ ?side1 ?side2 A9.out).mono ?_); (case side1 => repeat (first | (with_reducible first | exact HI0.out | apply qd.alloc | apply qd.drewN | apply qd.drew | apply qd.set_1 | apply qd.set_2) | exact HI0.out)); (case side2 => repeat (first | (with_reducible first | exact HB.out | apply qf | apply qg | apply qe | refine qk ?_ (qd.ge HI0.out)) | exact HB.out)); rintro e w48 ⟨rfl, hi, hb, hk⟩; replace HK := qb.mk (qh.trans (by repeat (first | (with_reducible first | exact HK.out | apply qh.set_ | apply qr | apply qq | apply qt) | exact HK.out)) hk (.inl rfl)); replace HB := qb.mk (hb); replace HI0 := qb.mk (hi); (try clear hb); (try clear hb2); (try clear hk); (try clear hi)) | (go_at_call 86; (with_reducible refine (qK.calls g s0_0 t378 t379 (a2.size : Int) t380 t381 t382 w0 _ ?side1 ?side2 A10.out).mono ?_); (case side1 => repeat (first | (with_reducible first | exact HI0.out | apply qd.alloc | apply qd.drewN | apply qd.drew | apply qd.set_1 | apply qd.set_2) | exact HI0.out)); (case side2 => repeat (first | (with_reducible first | exact HB.out | apply qf | apply qg | apply qe | refine qk ?_ (qd.ge HI0.out)) | exact HB.out)); rintro e w49 ⟨rfl, hi, hb, hk⟩; replace HK := qb.mk (qh.trans (by repeat (first | (with_reducible first | exact HK.out | apply qh.set_ | apply qr | apply qq | apply qt) | exact HK.out)) hk (.inl rfl)); replace HB := qb.mk (hb); replace HI0 := qb.mk (hi); (try clear hb); (try clear hb2); (try clear hk); (try clear hi); have p13 : 0 ≤ (t380 : Int) := of_decide_eq_true (by first | (with_reducible assumption) | assumption); have q13 : t380 < (a2.size : Int) := of_decide_eq_true (by first | (with_reducible assumption) | assumption); have hx13 := bt_at a2 t380; replace p13 := eq_true p13; replace q13 := eq_true q13) | ((with_reducible refine qcb (N := 32) rfl ?_); (try (refine qub (by rfl) ?_; dsimp only)); refine Kd.R_lit (Kd.int .u8) _ 5 ?hg (N := 32) ?hd (xs := ([bt a2 t380] : List Int)) (inner := [.int .u8 (bt a2 t380)]) (ok := fun _ => True) (okp := fun _ => True) ?hr ?hp (fun _ hk => hk) trivial (Below.refl _ _) (Nat.le_refl _) (by simp) ?_; (case hd => rfl); (case hg => rfl); (case hr => first | (go_simp; done) | (go_simp; rfl)); (case hp => exact (Reps.one (show Kd.M (Kd.int .u8) _ _ _ (bt a2 t380) [.int .u8 (bt a2 t380)] from rfl) (Reps.none _ _))); intro v384 w50 ho51 hb hg_ hnew_; clear hg_ hnew_; (first | rw [← Ny383.out] at ho51 | (simp only [Int.reduceToNat] at ho51; rw [← Ny383.out] at ho51)); have HO385 := qb.mk (Kd.qU ho51 (qob (w := w) (g := g) (row := none) (by repeat (first | (with_reducible first | exact HK.out | apply qh.set_ | apply qr | apply qq | apply qt) | exact HK.out)))); replace HK := qb.mk (qh.trans (by repeat (first | (with_reducible first | exact HK.out | apply qh.set_ | apply qr | apply qq | apply qt) | exact HK.out)) (qh.of_below hb g none) (.inl rfl)); replace HB := qb.mk (qE (by repeat (first | (with_reducible first | exact HB.out | apply qf | apply qg | apply qe | refine qk ?_ (qd.ge HI0.out)) | exact HB.out)) hb); replace HI0 := qb.mk (qd.below (by repeat (first | (with_reducible first | exact HI0.out | apply qd.alloc | apply qd.drewN | apply qd.drew | apply qd.set_1 | apply qd.set_2) | exact HI0.out)) hb); clear hb ho51; have hcv52 := qRb (P := Try.prog) Try.underlying38 Try.underlying5 Try.underlying9 (Kd.qQb HO385.out)) | (go_at_call 86; (with_reducible refine (qK.calls g s0_0 t381 t382 3 t386 t387 t388 w0 _ ?side1 ?side2 A14.out).mono ?_); (case side1 => repeat (first | (with_reducible first | exact HI0.out | apply qd.alloc | apply qd.drewN | apply qd.drew | apply qd.set_1 | apply qd.set_2) | exact HI0.out)); (case side2 => repeat (first | (with_reducible first | exact HB.out | apply qf | apply qg | apply qe | refine qk ?_ (qd.ge HI0.out)) | exact HB.out)); rintro e w53 ⟨rfl, hi, hb, hk⟩; replace HO385 := qb.mk (Kd.qF (Kd.qeb (qd.apart (show qd w0 _ g s0_0 t381 t382 from by repeat (first | (with_reducible first | exact HI0.out | apply qd.alloc | apply qd.drewN | apply qd.drew | apply qd.set_1 | apply qd.set_2) | exact HI0.out)) (by (with_reducible repeat (first | apply Kd.qo | apply Kd.qn | apply Kd.qm)); exact HO385.out) (by decide)) hk (fun _ h => h.2)) (fun _ h => h.1)); replace HK := qb.mk (qh.trans (by repeat (first | (with_reducible first | exact HK.out | apply qh.set_ | apply qr | apply qq | apply qt) | exact HK.out)) hk (.inl rfl)); replace HB := qb.mk (hb); replace HI0 := qb.mk (hi); (try clear hb); (try clear hb2); (try clear hk); (try clear hi))))
               go_roundg kj5
               case measure => have := HK1.out; have := HJ5.out; omega
               case rel => exact ⟨((x1_1.extract 0 (t377 : Int).toNat) ++ (x1_1.extract ((ji44) : Int).toNat x1_1.size)), (wrap64 (x7_1 - 1)), (t387), (t388), (by first | rfl | (simp; done) | (simp only [← hji44] <;> (first | rfl | simp)) | (simp [*]; done)), (by first | rfl | (simp; done) | (simp [*]; done)), H', ⟨by have := HK1.out; have := HJ5.out; omega⟩, ⟨by repeat (first | (with_reducible first | exact HI0.out | apply qd.alloc | apply qd.drewN | apply qd.drew | apply qd.set_1 | apply qd.set_2) | exact HI0.out)⟩, ⟨by repeat (first | (with_reducible first | exact HK.out | apply qh.set_ | apply qr | apply qq | apply qt) | exact HK.out)⟩, ⟨by repeat (first | (with_reducible first | exact HB.out | apply qf | apply qg | apply qe | refine qk ?_ (qd.ge HI0.out)) | exact HB.out)⟩⟩
              ·rw [if_neg c47] at H
               exact absurd H (by simp)
             ·rw [if_neg c46] at H
              exact absurd H (by simp)
            ·rw [if_neg c45] at H
             exact absurd H (by simp)
           ·rw [if_neg c43] at H
            exact absurd H (by simp)
          ·rw [if_neg c42] at H
           exact absurd H (by simp)
       ·rw [if_neg c12] at H
        exact absurd H (by simp)
      ·rw [if_neg c11] at H
       exact absurd H (by simp)
     ·replace c8 := Bool.eq_false_iff.mpr c8
      subst c8
      rw [if_neg (show ¬ (false = true) by decide)] at H
      simp only [Option.some.injEq, Prod.mk.injEq] at H
      obtain ⟨rfl, rfl, rfl⟩ := H
      go_wp2
      repeat (go_quiet (fail); try go_wp2)
      go_ret
      exact ⟨by first | rfl | (simp [qv, qu] <;> rfl) | (simp [*, qv, qu] <;> rfl), by repeat (first | (with_reducible first | exact HI0.out | apply qd.alloc | apply qd.drewN | apply qd.drew | apply qd.set_1 | apply qd.set_2) | exact HI0.out), by repeat (first | (with_reducible first | exact HB.out | apply qf | apply qg | apply qe | refine qk ?_ (qd.ge HI0.out)) | exact HB.out), by repeat (first | (with_reducible first | exact HK.out | apply qh.set_ | apply qr | apply qq | apply qt) | exact HK.out)⟩

/-! ### qLb: function 51 -/
def qLb.f (k : Nat) (l0 : List Int) : Option (ByteArray × ByteArray) := (qsb.f k l0 0 0).bind fun bt390 => ((qW.f k bt390.1 bt390.2.1).bind fun bt396 => ((qK.f l0 bt390.2.2.1 bt390.2.2.2 4).bind fun bt398 => (if bt398.1 = 0 then ((qbb.f k l0 bt398.2.1 bt398.2.2 bt396.1 (⟨#[0, 1, 2, 3]⟩ : ByteArray)).bind fun bt401 => (some (bt390.1, bt401.1))) else (if bt398.1 = 1 then ((qK.f l0 bt398.2.1 bt398.2.2 (wrap64 ((bt396.1.size : Int) + 1))).bind fun bt404 => (if 0 ≤ bt404.1 then (if bt404.1 ≤ (bt396.1.size : Int) then (some (bt390.1, bt396.1.extract 0 (bt404.1 : Int).toNat)) else (none)) else (none))) else (some (bt390.1, bt396.1))))))
theorem qLb.mono : ∀ a0 k, LeO (qLb.f k a0) (qLb.f (k + 1) a0) := by
 intro a0 k
 unfold qLb.f
 repeat' first
   | (with_reducible exact qW.mono _ _ _)
   | (with_reducible exact qsb.mono _ _ _ _)
   | (with_reducible exact qbb.mono _ _ _ _ _ _)
   | (with_reducible exact LeO.refl _)
   | (with_reducible exact LeO.none _)
   | (with_reducible refine LeO.ite ?_ ?_)
   | (with_reducible refine LeO.bind ?_ (fun _ => ?_))
   | exact LeO.none _
   | refine LeO.ite ?_ ?_
   | refine LeO.bind ?_ (fun _ => ?_)
set_option maxHeartbeats 8000000 in
set_option maxRecDepth 100000 in
theorem qLb.calls (k : Nat) (A0 : Option Addr) (c0 : Nat) (l0 : List Int) (r1 : ByteArray) (r2 : ByteArray) (w : World) (hr0 : Kd.C (Kd.int .u8) w A0 l0.length l0) (hc0 : l0.length ≤ c0) (h : qLb.f k l0 = some (r1, r2)) :
  Calls Try.prog 51 #[.slice A0 l0.length c0] w fun e w' => e = .returned (.tuple #[.string r1, .string r2]) ∧ Below w.heap.size w w' := by
 have hu79 := Try.underlying79
 have HR0 := qb.mk hr0
 have HC0 := qb.mk hc0
 clear hr0 hc0
 have HB := qb.mk (Below.refl w.heap.size w)
 have H : ((qsb.f k l0 0 0).bind fun bt390 => ((qW.f k bt390.1 bt390.2.1).bind fun bt396 => ((qK.f l0 bt390.2.2.1 bt390.2.2.2 4).bind fun bt398 => (if bt398.1 = 0 then ((qbb.f k l0 bt398.2.1 bt398.2.2 bt396.1 (⟨#[0, 1, 2, 3]⟩ : ByteArray)).bind fun bt401 => (some (bt390.1, bt401.1))) else (if bt398.1 = 1 then ((qK.f l0 bt398.2.1 bt398.2.2 (wrap64 ((bt396.1.size : Int) + 1))).bind fun bt404 => (if 0 ≤ bt404.1 then (if bt404.1 ≤ (bt396.1.size : Int) then (some (bt390.1, bt396.1.extract 0 (bt404.1 : Int).toNat)) else (none)) else (none))) else (some (bt390.1, bt396.1))))))) = some (r1, r2) := h
 clear h
 replace H := Option.bind_eq_some_iff.mp H
 obtain ⟨⟨t390, t391, t394, t395⟩, A20, H⟩ := H
 try dsimp only at H
 have A2 := qb.mk A20
 clear A20
 replace H := Option.bind_eq_some_iff.mp H
 obtain ⟨⟨t396, t397⟩, A30, H⟩ := H
 try dsimp only at H
 have A3 := qb.mk A30
 clear A30
 replace H := Option.bind_eq_some_iff.mp H
 obtain ⟨⟨t398, t399, t400⟩, A40, H⟩ := H
 try dsimp only at H
 have A4 := qb.mk A40
 clear A40
 by_cases c5 : t398 = 0
 ·rw [if_pos c5] at H
  have c5b0 : (t398 == 0) = true := beq_iff_eq.mpr c5
  have c5b1 : (t398 != 0) = false := bne_eq_false_iff_eq.mpr c5
  clear c5
  replace H := Option.bind_eq_some_iff.mp H
  obtain ⟨⟨t401, t402, t403⟩, A60, H⟩ := H
  try dsimp only at H
  have A6 := qb.mk A60
  clear A60
  simp only [Option.some.injEq, Prod.mk.injEq] at H
  obtain ⟨rfl, rfl⟩ := H
  go_enter Try.func51, Try.ntmps51
  go_wp2_with (first | ((with_reducible refine qcb (N := 11) rfl ?_); refine qpb ?hg (N := 11) ?hd (cs := #[.slice A0 l0.length c0, .int .i64 0, .int .u64 0]) (t := 79) ?hr ?_; (case hd => rfl); (case hg => rfl); (case hr => first | (go_simp; done) | (go_simp; rfl)); intro gb389 hg w7 hbox hb; have BK389 := qb.mk (hbox); have GW389 := qb.mk ((by rw [hg]; exact (qG (by repeat (first | (with_reducible first | exact HB.out | apply qf | apply qg | apply qe) | exact HB.out))) : w.heap.size ≤ gb389)); have GE389 := qb.mk ((by rw [hg]; exact (qG (by repeat (first | (with_reducible first | exact HB.out | apply qf | apply qg | apply qe) | exact HB.out))) : w.heap.size ≤ gb389)); have HI389 := qb.mk ((show qd w w7 gb389 l0 0 0 from ⟨_, _, hbox, (by rw [hg]; exact (qG (by repeat (first | (with_reducible first | exact HB.out | apply qf | apply qg | apply qe) | exact HB.out))) : w.heap.size ≤ gb389), HR0.out⟩)); replace HB := qb.mk (qE (by repeat (first | (with_reducible first | exact HB.out | apply qf | apply qg | apply qe) | exact HB.out)) hb); clear hb hbox hg) | ((with_reducible refine qy (f := 85) rfl ?_); refine qz (some 14) rfl rfl Try.func85 (by kernel_rfl) rfl #[.pointer (some ⟨gb389, 0, none⟩)] rfl (by (try simp only [List.map_toArray, List.map_cons, List.map_nil]); first | done | rfl | (simp only [List.length_drop, List.length_take]; rfl)) ?_; (with_reducible refine (qsb.calls k gb389 l0 0 0 t390 t391 t394 t395 w _ ?side1 ?side2 A2.out).mono ?_); (case side1 => repeat (first | (with_reducible first | exact HI389.out | apply qd.alloc | apply qd.drewN | apply qd.drew | apply qd.set_1 | apply qd.set_2) | exact HI389.out)); (case side2 => repeat (first | (with_reducible first | exact HB.out | apply qf | apply qg | apply qe | refine qk ?_ (qd.ge HI389.out)) | exact HB.out)); rintro e w8 ⟨v392, rfl, ho0, hi, hb, hk⟩; refine ⟨_, rfl, ?_⟩; have HO393 := qb.mk (Kd.qU ho0 (qG (by repeat (first | (with_reducible first | exact HB.out | apply qf | apply qg | apply qe | refine qk ?_ (qd.ge HI389.out)) | exact HB.out)))); replace HB := qb.mk (hb); replace HI389 := qb.mk (hi); (try clear hb); (try clear hb2); (try clear hk); (try clear hi); (try clear ho0); obtain ⟨Ao9, co9, eo9⟩ := Kd.qfb HO393.out; subst eo9) | ((with_reducible refine qy (f := 24) rfl ?_); refine qz (some 20) rfl rfl Try.func24 (by kernel_rfl) rfl #[.string t390, .slice Ao9 t391.length co9] rfl (by (try simp only [List.map_toArray, List.map_cons, List.map_nil]); first | done | rfl | (simp only [List.length_drop, List.length_take]; rfl)) ?_; (with_reducible refine (qW.calls k t390 _ _ t391 t396 t397 _ ?side1 ?side2 A3.out).mono ?_); (case side1 => repeat (first | exact (Kd.qD HO393.out).2.2 | (with_reducible refine Kd.qN ?_ _) | (with_reducible refine Kd.qM ?_ _) | (with_reducible refine Kd.qO ?_))); (case side2 => exact (Kd.qD HO393.out).2.1); rintro e w10 ⟨rfl, hb⟩; refine ⟨_, rfl, ?_⟩; replace HO393 := qb.mk (Kd.qX (by (with_reducible repeat (first | apply Kd.qo | apply Kd.qn | apply Kd.qm)); exact HO393.out) hb); replace HB := qb.mk (qE (by repeat (first | (with_reducible first | exact HB.out | apply qf | apply qg | apply qe | refine qk ?_ (qd.ge HI389.out)) | exact HB.out)) hb); replace HI389 := qb.mk (qd.below (by repeat (first | (with_reducible first | exact HI389.out | apply qd.alloc | apply qd.drewN | apply qd.drew | apply qd.set_1 | apply qd.set_2) | exact HI389.out)) hb); (try clear hb); (try clear hb2); (try clear hk); (try clear hi)) | ((with_reducible refine qy (f := 86) rfl ?_); refine qz (some 24) rfl rfl Try.func86 (by kernel_rfl) rfl #[.pointer (some ⟨gb389, 0, none⟩), .int .i64 4] rfl (by (try simp only [List.map_toArray, List.map_cons, List.map_nil]); first | done | rfl | (simp only [List.length_drop, List.length_take]; rfl)) ?_; (with_reducible refine (qK.calls gb389 l0 t394 t395 4 t398 t399 t400 w _ ?side1 ?side2 A4.out).mono ?_); (case side1 => repeat (first | (with_reducible first | exact HI389.out | apply qd.alloc | apply qd.drewN | apply qd.drew | apply qd.set_1 | apply qd.set_2) | exact HI389.out)); (case side2 => repeat (first | (with_reducible first | exact HB.out | apply qf | apply qg | apply qe | refine qk ?_ (qd.ge HI389.out)) | exact HB.out)); rintro e w11 ⟨rfl, hi, hb, hk⟩; refine ⟨_, rfl, ?_⟩; replace HO393 := qb.mk (Kd.qF (Kd.qeb (qd.apart (show qd w _ gb389 l0 t394 t395 from by repeat (first | (with_reducible first | exact HI389.out | apply qd.alloc | apply qd.drewN | apply qd.drew | apply qd.set_1 | apply qd.set_2) | exact HI389.out)) (by (with_reducible repeat (first | apply Kd.qo | apply Kd.qn | apply Kd.qm)); exact HO393.out) (by decide)) hk (fun _ h => h.2)) (fun _ h => h.1)); replace HB := qb.mk (hb); replace HI389 := qb.mk (hi); (try clear hb); (try clear hb2); (try clear hk); (try clear hi)) | ((with_reducible refine qy (f := 87) rfl ?_); refine qz (some 29) rfl rfl Try.func87 (by kernel_rfl) rfl #[.pointer (some ⟨gb389, 0, none⟩), .string t396, .string (⟨#[0, 1, 2, 3]⟩ : ByteArray)] rfl (by (try simp only [List.map_toArray, List.map_cons, List.map_nil]); first | done | rfl | (simp only [List.length_drop, List.length_take]; rfl)) ?_; (with_reducible refine (qbb.calls k gb389 l0 t399 t400 t396 (⟨#[0, 1, 2, 3]⟩ : ByteArray) t401 t402 t403 w _ ?side1 ?side2 A6.out).mono ?_); (case side1 => repeat (first | (with_reducible first | exact HI389.out | apply qd.alloc | apply qd.drewN | apply qd.drew | apply qd.set_1 | apply qd.set_2) | exact HI389.out)); (case side2 => repeat (first | (with_reducible first | exact HB.out | apply qf | apply qg | apply qe | refine qk ?_ (qd.ge HI389.out)) | exact HB.out)); rintro e w12 ⟨rfl, hi, hb, hk⟩; refine ⟨_, rfl, ?_⟩; replace HO393 := qb.mk (Kd.qF (Kd.qeb (qd.apart (show qd w _ gb389 l0 t399 t400 from by repeat (first | (with_reducible first | exact HI389.out | apply qd.alloc | apply qd.drewN | apply qd.drew | apply qd.set_1 | apply qd.set_2) | exact HI389.out)) (by (with_reducible repeat (first | apply Kd.qo | apply Kd.qn | apply Kd.qm)); exact HO393.out) (by decide)) hk (fun _ h => h.2)) (fun _ h => h.1)); replace HB := qb.mk (hb); replace HI389 := qb.mk (hi); (try clear hb); (try clear hb2); (try clear hk); (try clear hi)))
  go_ret2
  exact ⟨by first | rfl | (simp [qv, qu] <;> rfl) | (simp [*, qv, qu] <;> rfl), by repeat (first | (with_reducible first | exact HB.out | apply qf | apply qg | apply qe | refine qk ?_ (qd.ge HI389.out)) | exact HB.out)⟩
 ·rw [if_neg c5] at H
  have c5b0 : (t398 == 0) = false := beq_eq_false_iff_ne.mpr c5
  have c5b1 : (t398 != 0) = true := bne_iff_ne.mpr c5
  by_cases c13 : t398 = 1
  ·rw [if_pos c13] at H
   have c13b0 : (t398 == 1) = true := beq_iff_eq.mpr c13
   have c13b1 : (t398 != 1) = false := bne_eq_false_iff_eq.mpr c13
   clear c13
   replace H := Option.bind_eq_some_iff.mp H
   obtain ⟨⟨t404, t405, t406⟩, A140, H⟩ := H
   try dsimp only at H
   have A14 := qb.mk A140
   clear A140
   by_cases c15 : 0 ≤ t404
   ·rw [if_pos c15] at H
    have c15b0 := eq_true c15
    have c15b1 : decide (0 ≤ t404) = true := decide_eq_true c15
    clear c15
    by_cases c16 : t404 ≤ (t396.size : Int)
    ·rw [if_pos c16] at H
     have c16b0 := eq_true c16
     have c16b1 : decide (t404 ≤ (t396.size : Int)) = true := decide_eq_true c16
     clear c16
     simp only [Option.some.injEq, Prod.mk.injEq] at H
     obtain ⟨rfl, rfl⟩ := H
     go_enter Try.func51, Try.ntmps51
     go_wp2_with (first | ((with_reducible refine qcb (N := 11) rfl ?_); refine qpb ?hg (N := 11) ?hd (cs := #[.slice A0 l0.length c0, .int .i64 0, .int .u64 0]) (t := 79) ?hr ?_; (case hd => rfl); (case hg => rfl); (case hr => first | (go_simp; done) | (go_simp; rfl)); intro gb389 hg w17 hbox hb; have BK389 := qb.mk (hbox); have GW389 := qb.mk ((by rw [hg]; exact (qG (by repeat (first | (with_reducible first | exact HB.out | apply qf | apply qg | apply qe) | exact HB.out))) : w.heap.size ≤ gb389)); have GE389 := qb.mk ((by rw [hg]; exact (qG (by repeat (first | (with_reducible first | exact HB.out | apply qf | apply qg | apply qe) | exact HB.out))) : w.heap.size ≤ gb389)); have HI389 := qb.mk ((show qd w w17 gb389 l0 0 0 from ⟨_, _, hbox, (by rw [hg]; exact (qG (by repeat (first | (with_reducible first | exact HB.out | apply qf | apply qg | apply qe) | exact HB.out))) : w.heap.size ≤ gb389), HR0.out⟩)); replace HB := qb.mk (qE (by repeat (first | (with_reducible first | exact HB.out | apply qf | apply qg | apply qe) | exact HB.out)) hb); clear hb hbox hg) | ((with_reducible refine qy (f := 85) rfl ?_); refine qz (some 14) rfl rfl Try.func85 (by kernel_rfl) rfl #[.pointer (some ⟨gb389, 0, none⟩)] rfl (by (try simp only [List.map_toArray, List.map_cons, List.map_nil]); first | done | rfl | (simp only [List.length_drop, List.length_take]; rfl)) ?_; (with_reducible refine (qsb.calls k gb389 l0 0 0 t390 t391 t394 t395 w _ ?side1 ?side2 A2.out).mono ?_); (case side1 => repeat (first | (with_reducible first | exact HI389.out | apply qd.alloc | apply qd.drewN | apply qd.drew | apply qd.set_1 | apply qd.set_2) | exact HI389.out)); (case side2 => repeat (first | (with_reducible first | exact HB.out | apply qf | apply qg | apply qe | refine qk ?_ (qd.ge HI389.out)) | exact HB.out)); rintro e w18 ⟨v392, rfl, ho0, hi, hb, hk⟩; refine ⟨_, rfl, ?_⟩; have HO393 := qb.mk (Kd.qU ho0 (qG (by repeat (first | (with_reducible first | exact HB.out | apply qf | apply qg | apply qe | refine qk ?_ (qd.ge HI389.out)) | exact HB.out)))); replace HB := qb.mk (hb); replace HI389 := qb.mk (hi); (try clear hb); (try clear hb2); (try clear hk); (try clear hi); (try clear ho0); obtain ⟨Ao19, co19, eo19⟩ := Kd.qfb HO393.out; subst eo19) | ((with_reducible refine qy (f := 24) rfl ?_); refine qz (some 20) rfl rfl Try.func24 (by kernel_rfl) rfl #[.string t390, .slice Ao19 t391.length co19] rfl (by (try simp only [List.map_toArray, List.map_cons, List.map_nil]); first | done | rfl | (simp only [List.length_drop, List.length_take]; rfl)) ?_; (with_reducible refine (qW.calls k t390 _ _ t391 t396 t397 _ ?side1 ?side2 A3.out).mono ?_); (case side1 => repeat (first | exact (Kd.qD HO393.out).2.2 | (with_reducible refine Kd.qN ?_ _) | (with_reducible refine Kd.qM ?_ _) | (with_reducible refine Kd.qO ?_))); (case side2 => exact (Kd.qD HO393.out).2.1); rintro e w20 ⟨rfl, hb⟩; refine ⟨_, rfl, ?_⟩; replace HO393 := qb.mk (Kd.qX (by (with_reducible repeat (first | apply Kd.qo | apply Kd.qn | apply Kd.qm)); exact HO393.out) hb); replace HB := qb.mk (qE (by repeat (first | (with_reducible first | exact HB.out | apply qf | apply qg | apply qe | refine qk ?_ (qd.ge HI389.out)) | exact HB.out)) hb); replace HI389 := qb.mk (qd.below (by repeat (first | (with_reducible first | exact HI389.out | apply qd.alloc | apply qd.drewN | apply qd.drew | apply qd.set_1 | apply qd.set_2) | exact HI389.out)) hb); (try clear hb); (try clear hb2); (try clear hk); (try clear hi)) | ((with_reducible refine qy (f := 86) rfl ?_); refine qz (some 24) rfl rfl Try.func86 (by kernel_rfl) rfl #[.pointer (some ⟨gb389, 0, none⟩), .int .i64 4] rfl (by (try simp only [List.map_toArray, List.map_cons, List.map_nil]); first | done | rfl | (simp only [List.length_drop, List.length_take]; rfl)) ?_; (with_reducible refine (qK.calls gb389 l0 t394 t395 4 t398 t399 t400 w _ ?side1 ?side2 A4.out).mono ?_); (case side1 => repeat (first | (with_reducible first | exact HI389.out | apply qd.alloc | apply qd.drewN | apply qd.drew | apply qd.set_1 | apply qd.set_2) | exact HI389.out)); (case side2 => repeat (first | (with_reducible first | exact HB.out | apply qf | apply qg | apply qe | refine qk ?_ (qd.ge HI389.out)) | exact HB.out)); rintro e w21 ⟨rfl, hi, hb, hk⟩; refine ⟨_, rfl, ?_⟩; replace HO393 := qb.mk (Kd.qF (Kd.qeb (qd.apart (show qd w _ gb389 l0 t394 t395 from by repeat (first | (with_reducible first | exact HI389.out | apply qd.alloc | apply qd.drewN | apply qd.drew | apply qd.set_1 | apply qd.set_2) | exact HI389.out)) (by (with_reducible repeat (first | apply Kd.qo | apply Kd.qn | apply Kd.qm)); exact HO393.out) (by decide)) hk (fun _ h => h.2)) (fun _ h => h.1)); replace HB := qb.mk (hb); replace HI389 := qb.mk (hi); (try clear hb); (try clear hb2); (try clear hk); (try clear hi)) | ((with_reducible refine qy (f := 86) rfl ?_); refine qz (some 37) rfl rfl Try.func86 (by kernel_rfl) rfl #[.pointer (some ⟨gb389, 0, none⟩), .int .i64 (wrap64 ((t396.size : Int) + 1))] rfl (by (try simp only [List.map_toArray, List.map_cons, List.map_nil]); first | done | rfl | (simp only [List.length_drop, List.length_take]; rfl)) ?_; (with_reducible refine (qK.calls gb389 l0 t399 t400 (wrap64 ((t396.size : Int) + 1)) t404 t405 t406 w _ ?side1 ?side2 A14.out).mono ?_); (case side1 => repeat (first | (with_reducible first | exact HI389.out | apply qd.alloc | apply qd.drewN | apply qd.drew | apply qd.set_1 | apply qd.set_2) | exact HI389.out)); (case side2 => repeat (first | (with_reducible first | exact HB.out | apply qf | apply qg | apply qe | refine qk ?_ (qd.ge HI389.out)) | exact HB.out)); rintro e w22 ⟨rfl, hi, hb, hk⟩; refine ⟨_, rfl, ?_⟩; replace HO393 := qb.mk (Kd.qF (Kd.qeb (qd.apart (show qd w _ gb389 l0 t399 t400 from by repeat (first | (with_reducible first | exact HI389.out | apply qd.alloc | apply qd.drewN | apply qd.drew | apply qd.set_1 | apply qd.set_2) | exact HI389.out)) (by (with_reducible repeat (first | apply Kd.qo | apply Kd.qn | apply Kd.qm)); exact HO393.out) (by decide)) hk (fun _ h => h.2)) (fun _ h => h.1)); replace HB := qb.mk (hb); replace HI389 := qb.mk (hi); (try clear hb); (try clear hb2); (try clear hk); (try clear hi)))
     go_ret2
     exact ⟨by first | rfl | (simp [qv, qu] <;> rfl) | (simp [*, qv, qu] <;> rfl), by repeat (first | (with_reducible first | exact HB.out | apply qf | apply qg | apply qe | refine qk ?_ (qd.ge HI389.out)) | exact HB.out)⟩
    ·rw [if_neg c16] at H
     exact absurd H (by simp)
   ·rw [if_neg c15] at H
    exact absurd H (by simp)
  ·rw [if_neg c13] at H
   have c13b0 : (t398 == 1) = false := beq_eq_false_iff_ne.mpr c13
   have c13b1 : (t398 != 1) = true := bne_iff_ne.mpr c13
   simp only [Option.some.injEq, Prod.mk.injEq] at H
   obtain ⟨rfl, rfl⟩ := H
   go_enter Try.func51, Try.ntmps51
   go_wp2_with (first | ((with_reducible refine qcb (N := 11) rfl ?_); refine qpb ?hg (N := 11) ?hd (cs := #[.slice A0 l0.length c0, .int .i64 0, .int .u64 0]) (t := 79) ?hr ?_; (case hd => rfl); (case hg => rfl); (case hr => first | (go_simp; done) | (go_simp; rfl)); intro gb389 hg w23 hbox hb; have BK389 := qb.mk (hbox); have GW389 := qb.mk ((by rw [hg]; exact (qG (by repeat (first | (with_reducible first | exact HB.out | apply qf | apply qg | apply qe) | exact HB.out))) : w.heap.size ≤ gb389)); have GE389 := qb.mk ((by rw [hg]; exact (qG (by repeat (first | (with_reducible first | exact HB.out | apply qf | apply qg | apply qe) | exact HB.out))) : w.heap.size ≤ gb389)); have HI389 := qb.mk ((show qd w w23 gb389 l0 0 0 from ⟨_, _, hbox, (by rw [hg]; exact (qG (by repeat (first | (with_reducible first | exact HB.out | apply qf | apply qg | apply qe) | exact HB.out))) : w.heap.size ≤ gb389), HR0.out⟩)); replace HB := qb.mk (qE (by repeat (first | (with_reducible first | exact HB.out | apply qf | apply qg | apply qe) | exact HB.out)) hb); clear hb hbox hg) | ((with_reducible refine qy (f := 85) rfl ?_); refine qz (some 14) rfl rfl Try.func85 (by kernel_rfl) rfl #[.pointer (some ⟨gb389, 0, none⟩)] rfl (by (try simp only [List.map_toArray, List.map_cons, List.map_nil]); first | done | rfl | (simp only [List.length_drop, List.length_take]; rfl)) ?_; (with_reducible refine (qsb.calls k gb389 l0 0 0 t390 t391 t394 t395 w _ ?side1 ?side2 A2.out).mono ?_); (case side1 => repeat (first | (with_reducible first | exact HI389.out | apply qd.alloc | apply qd.drewN | apply qd.drew | apply qd.set_1 | apply qd.set_2) | exact HI389.out)); (case side2 => repeat (first | (with_reducible first | exact HB.out | apply qf | apply qg | apply qe | refine qk ?_ (qd.ge HI389.out)) | exact HB.out)); rintro e w24 ⟨v392, rfl, ho0, hi, hb, hk⟩; refine ⟨_, rfl, ?_⟩; have HO393 := qb.mk (Kd.qU ho0 (qG (by repeat (first | (with_reducible first | exact HB.out | apply qf | apply qg | apply qe | refine qk ?_ (qd.ge HI389.out)) | exact HB.out)))); replace HB := qb.mk (hb); replace HI389 := qb.mk (hi); (try clear hb); (try clear hb2); (try clear hk); (try clear hi); (try clear ho0); obtain ⟨Ao25, co25, eo25⟩ := Kd.qfb HO393.out; subst eo25) | ((with_reducible refine qy (f := 24) rfl ?_); refine qz (some 20) rfl rfl Try.func24 (by kernel_rfl) rfl #[.string t390, .slice Ao25 t391.length co25] rfl (by (try simp only [List.map_toArray, List.map_cons, List.map_nil]); first | done | rfl | (simp only [List.length_drop, List.length_take]; rfl)) ?_; (with_reducible refine (qW.calls k t390 _ _ t391 t396 t397 _ ?side1 ?side2 A3.out).mono ?_); (case side1 => repeat (first | exact (Kd.qD HO393.out).2.2 | (with_reducible refine Kd.qN ?_ _) | (with_reducible refine Kd.qM ?_ _) | (with_reducible refine Kd.qO ?_))); (case side2 => exact (Kd.qD HO393.out).2.1); rintro e w26 ⟨rfl, hb⟩; refine ⟨_, rfl, ?_⟩; replace HO393 := qb.mk (Kd.qX (by (with_reducible repeat (first | apply Kd.qo | apply Kd.qn | apply Kd.qm)); exact HO393.out) hb); replace HB := qb.mk (qE (by repeat (first | (with_reducible first | exact HB.out | apply qf | apply qg | apply qe | refine qk ?_ (qd.ge HI389.out)) | exact HB.out)) hb); replace HI389 := qb.mk (qd.below (by repeat (first | (with_reducible first | exact HI389.out | apply qd.alloc | apply qd.drewN | apply qd.drew | apply qd.set_1 | apply qd.set_2) | exact HI389.out)) hb); (try clear hb); (try clear hb2); (try clear hk); (try clear hi)) | ((with_reducible refine qy (f := 86) rfl ?_); refine qz (some 24) rfl rfl Try.func86 (by kernel_rfl) rfl #[.pointer (some ⟨gb389, 0, none⟩), .int .i64 4] rfl (by (try simp only [List.map_toArray, List.map_cons, List.map_nil]); first | done | rfl | (simp only [List.length_drop, List.length_take]; rfl)) ?_; (with_reducible refine (qK.calls gb389 l0 t394 t395 4 t398 t399 t400 w _ ?side1 ?side2 A4.out).mono ?_); (case side1 => repeat (first | (with_reducible first | exact HI389.out | apply qd.alloc | apply qd.drewN | apply qd.drew | apply qd.set_1 | apply qd.set_2) | exact HI389.out)); (case side2 => repeat (first | (with_reducible first | exact HB.out | apply qf | apply qg | apply qe | refine qk ?_ (qd.ge HI389.out)) | exact HB.out)); rintro e w27 ⟨rfl, hi, hb, hk⟩; refine ⟨_, rfl, ?_⟩; replace HO393 := qb.mk (Kd.qF (Kd.qeb (qd.apart (show qd w _ gb389 l0 t394 t395 from by repeat (first | (with_reducible first | exact HI389.out | apply qd.alloc | apply qd.drewN | apply qd.drew | apply qd.set_1 | apply qd.set_2) | exact HI389.out)) (by (with_reducible repeat (first | apply Kd.qo | apply Kd.qn | apply Kd.qm)); exact HO393.out) (by decide)) hk (fun _ h => h.2)) (fun _ h => h.1)); replace HB := qb.mk (hb); replace HI389 := qb.mk (hi); (try clear hb); (try clear hb2); (try clear hk); (try clear hi)))
   go_ret2
   exact ⟨by first | rfl | (simp [qv, qu] <;> rfl) | (simp [*, qv, qu] <;> rfl), by repeat (first | (with_reducible first | exact HB.out | apply qf | apply qg | apply qe | refine qk ?_ (qd.ge HI389.out)) | exact HB.out)⟩

/-! ### qMb: function 52 -/
def qMb.f (k : Nat) (l0 : List Int) : Option (ByteArray × (List (S43))) := (qKb.f k l0).bind fun bt407 => (some (bt407.1, bt407.2))
theorem qMb.mono : ∀ a0 k, LeO (qMb.f k a0) (qMb.f (k + 1) a0) := by
 intro a0 k
 unfold qMb.f
 repeat' first
   | (with_reducible exact qKb.mono _ _)
   | (with_reducible exact LeO.refl _)
   | (with_reducible exact LeO.none _)
   | (with_reducible refine LeO.ite ?_ ?_)
   | (with_reducible refine LeO.bind ?_ (fun _ => ?_))
   | exact LeO.none _
   | refine LeO.ite ?_ ?_
   | refine LeO.bind ?_ (fun _ => ?_)
set_option maxHeartbeats 8000000 in
set_option maxRecDepth 100000 in
theorem qMb.calls (k : Nat) (A0 : Option Addr) (c0 : Nat) (l0 : List Int) (r1 : ByteArray) (r2 : List (S43)) (w : World) (hr0 : Kd.C (Kd.int .u8) w A0 l0.length l0) (hc0 : l0.length ≤ c0) (h : qMb.f k l0 = some (r1, r2)) :
  Calls Try.prog 52 #[.slice A0 l0.length c0] w fun e w' => ∃ v1_ : Value, e = .returned (.tuple #[.string r1, v1_]) ∧ Kd.R k43 43 w' w.heap.size (fun _ => True) v1_ r2 ∧ Below w.heap.size w w' := by
 have HR0 := qb.mk hr0
 have HC0 := qb.mk hc0
 clear hr0 hc0
 have HB := qb.mk (Below.refl w.heap.size w)
 have H : ((qKb.f k l0).bind fun bt407 => (some (bt407.1, bt407.2))) = some (r1, r2) := h
 clear h
 replace H := Option.bind_eq_some_iff.mp H
 obtain ⟨⟨t407, t408⟩, A20, H⟩ := H
 try dsimp only at H
 have A2 := qb.mk A20
 clear A20
 simp only [Option.some.injEq, Prod.mk.injEq] at H
 obtain ⟨rfl, rfl⟩ := H
 go_enter Try.func52, Try.ntmps52
 go_wp2_with (first | ((with_reducible refine qy (f := 76) rfl ?_); refine qz (some 5) rfl rfl Try.func76 (by kernel_rfl) rfl #[.slice A0 l0.length c0] rfl (by (try simp only [List.map_toArray, List.map_cons, List.map_nil]); first | done | rfl | (simp only [List.length_drop, List.length_take]; rfl)) ?_; (with_reducible refine (qKb.calls k _ _ l0 t407 t408 _ ?side1 ?side2 A2.out).mono ?_); (case side1 => repeat (first | exact HR0.out | (with_reducible refine Kd.qN ?_ _) | (with_reducible refine Kd.qM ?_ _) | (with_reducible refine Kd.qO ?_))); (case side2 => exact HC0.out); rintro e w3 ⟨v409, rfl, ho0, hb⟩; refine ⟨_, rfl, ?_⟩; have HO410 := qb.mk (Kd.qU ho0 (qG (by repeat (first | (with_reducible first | exact HB.out | apply qf | apply qg | apply qe) | exact HB.out)))); replace HB := qb.mk (qE (by repeat (first | (with_reducible first | exact HB.out | apply qf | apply qg | apply qe) | exact HB.out)) hb); (try clear hb); (try clear hb2); (try clear hk); (try clear hi); (try clear ho0)))
 go_ret2
 exact ⟨_, by first | rfl | (simp [qv, qu] <;> rfl) | (simp [*, qv, qu] <;> rfl), by (with_reducible repeat (first | apply Kd.qo | apply Kd.qn | apply Kd.qm)); exact HO410.out, by repeat (first | (with_reducible first | exact HB.out | apply qf | apply qg | apply qe) | exact HB.out)⟩

end Go.Proofs.Ytnhnlfkbngnkpaa.E
