import Derived.Test.YtpnhpbeoibaaeaaGreatE1
import Derived.Test.YtpnhpbeoibaaeaaGreatE2
import Derived.Test.YtpnhpbeoibaaeaaGreatE3
import Derived.Test.YtpnhpbeoibaaeaaGreatProg
import Derived.Test.YtpnhpbeoibaaeaaGreatExt
import Derived.Deep.DeepMust
import Derived.Deep.LoopGhost
import Derived.WalkKit
set_option linter.unusedVariables false
set_option linter.unusedSimpArgs false
set_option linter.unusedSectionVars false
namespace Go.Abs.G
open Go Go.Abs Go.Proofs
def TY : TyTab := [(2, (.int .i64), 0),
 (3, (.int .i64), 0),
 (4, .bool, 0),
 (5, (.int .u8), 0),
 (6, (.int .u8), 0),
 (9, .str, 0),
 (10, .str, 0),
 (11, .str, 0),
 (12, (.int .u64), 0),
 (21, (.int .i32), 0),
 (22, (.list (.int .u8)), 1),
 (24, (.list .str), 16),
 (25, (.list (.pair (.int .i64) (.pair (.int .i64) (.one (.list (.pair (.int .i64) (.one .str))))))), 40),
 (28, (.list (.int .i64)), 8),
 (35, (.list (.pair (.int .i64) (.one .str))), 24),
 (36, (.pair (.int .i64) (.pair (.int .i64) (.one (.list (.pair (.int .i64) (.one .str)))))), 0),
 (37, (.pair (.int .i64) (.pair (.int .i64) (.one (.list (.pair (.int .i64) (.one .str)))))), 0),
 (52, (.int .u64), 0),
 (53, (.pair (.list (.int .u8)) (.pair (.int .i64) (.one (.int .u64)))), 0),
 (54, (.pair (.list (.int .u8)) (.pair (.int .i64) (.one (.int .u64)))), 0),
 (67, (.list (.pair (.int .i64) (.pair (.int .i64) (.one (.list .str))))), 40),
 (80, (.pair (.int .i64) (.one .str)), 0),
 (81, (.pair (.int .i64) (.one .str)), 0),
 (96, (.pair (.int .i64) (.pair (.int .i64) (.one (.list .str)))), 0),
 (97, (.pair (.int .i64) (.pair (.int .i64) (.one (.list .str)))), 0),
 (104, (.int .u64), 0),
 (111, (.int .u32), 0),
 (119, (.int .u8), 0),
 (120, (.int .u8), 0),
 (123, (.int .i32), 0),
 (124, (.int .i32), 0)]
def AR : ArrTab := []
theorem tabOk_all : tabOk Tryz.prog AR TY = true := by kernel_rfl
theorem follows : Tryz.prog.follows .mixedOrders = true := by kernel_rfl
/-- strings.Contains at one byte -/
def strings_Contains.f (s t : ByteArray) : Option Bool := contains1 s t
def strings_Contains.S : Abs.Sum := ⟨.cons (.val .str) (.cons (.val .str) .nil), [(0, .bool)], fun _ x => strings_Contains.f x.1 x.2⟩
theorem strings_Contains.meets : Meets Tryz.prog 86 strings_Contains.S :=
  ⟨⟨_, Tryz.f86.body.getD .skip, (by kernel_rfl : Tryz.prog.funcs[86]? = some Tryz.f86), by kernel_rfl, by kernel_rfl⟩, contains_keeps Go.Proofs.YtpnhpbeoibaaeaaGreat.Ext.contains_one⟩
/-- slices.Clone -/
def slices_Clone_Lstring_string.f (xs : List ByteArray) : Option (List ByteArray) := clone1 16 xs
def slices_Clone_Lstring_string.S : Abs.Sum := ⟨.cons (.val (.list .str)) .nil, [(9, .list .str)], fun _ x => slices_Clone_Lstring_string.f x⟩
theorem slices_Clone_Lstring_string.meets : Meets Tryz.prog 29 slices_Clone_Lstring_string.S :=
  ⟨⟨_, Tryz.f29.body.getD .skip, (by kernel_rfl : Tryz.prog.funcs[29]? = some Tryz.f29), by kernel_rfl, by kernel_rfl⟩,
    clone_keeps (e := .str) (d := 9) (B := 16) (te := 9) Go.Proofs.YtpnhpbeoibaaeaaGreat.Ext.clone_f29 rfl rfl (tyOk_tab (b := 0) tabOk_all (by kernel_rfl)) (bytesIs (by kernel_rfl)) rfl⟩
section
open Go.RowKit Go.Lib Go.Shelf
theorem ins_info : (Tryz.prog.info? 9).map (fun i => (i.zero, i.size, i.bytes)) = some (some (Value.string { data := #[] }), 1, 16) := by kernel_rfl
theorem ins_size : (Tryz.prog.info? 9).map (·.size) = some 1 := by kernel_rfl
theorem run_over (w : World) (a b : Value) (la lb : Bool) (h : (Extern.SlicesOverlaps.overlaps #[24, 24] #[4] #[a, b]).run Tryz.prog w = .ok (.bool false) w) :
    (callFunc 62 #[a, b]).run Tryz.prog w = .ok (.value (.bool false)) w := by
  rw [run_callFunc_extern Tryz.func62 (by kernel_rfl) (by kernel_rfl) (by kernel_rfl) (e := Extern.SlicesOverlaps.overlaps #[24, 24] #[4]) (by kernel_rfl), h]
  rfl
set_option maxHeartbeats 4000000 in
set_option maxRecDepth 100000 in
theorem insert_grow {w : World} {b o c i vb vo m vc : Nat} {arr varr : Array Value} {xs vs : List ByteArray} (hO : Own 1 w b arr) (hn : xs.length ≤ c) (ha : o + c ≤ arr.size) (hx : ∀ k, k < xs.length → arr[o + k]? = (xs.map Value.string)[k]?)
    (hv : Has w vb varr) (hvb : vb ≠ b) (hm : vs.length = m) (hvs : ∀ j v, (vs.map Value.string)[j]? = some v → w.cell? ⟨vb, vo + j, none⟩ = some v) (h0 : 0 < m) (hi : i < xs.length) (hc : c < xs.length + m) (hbig : (xs.length + m) * 16 ≤ 140737488355328) :
    Calls Tryz.prog 61 #[.slice (some ⟨b, o, none⟩) xs.length c, .int .i64 i, .slice (some ⟨vb, vo, none⟩) m vc] w fun e w' => ∃ v', e = .returned v' ∧ Out w w' b v' (xs.take i ++ vs ++ xs.drop i) := by
  obtain ⟨i0, hi0, hz0, hzs, hzb⟩ := info_parts ins_info
  have hb1 : ¬ ((m : Int) = 0) := by omega
  have hb2 : ¬ ((i : Int) = (xs.length : Int)) := by omega
  have hb3 : (c : Int) < (xs.length : Int) + (m : Int) := by omega
  have hkk : (xs.length : Int) + (m : Int) - (i : Int) = ((xs.length + m - i : Nat) : Int) := by omega
  generalize hN : xs.length = n at *
  have hin : i + (n + m - i) = n + m := by omega
  have hw1 : IntKind.i64.wrap ((i : Int) + (m : Int)) = (i : Int) + (m : Int) := by rw [IntKind.wrap_i64]; omega
  have hci : ¬ (c = i) := by omega
  have hin2 : i ≤ n := by omega
  have hil : (i : Int) ≤ (n : Int) := by omega
  have hb0 : (0 : Int) ≤ (i : Int) + (m : Int) := by omega
  have htn : ((i : Int) + (m : Int)).toNat = i + m := by omega
  have hE := fun ty => append_make_E (P := Tryz.prog) (W := w) (ty := ty) hO Tryz.underlying24 Tryz.underlying3 hi0 hz0 hzs hzb rfl (k := n + m - i) rfl (show i ≤ c by omega) ha (by omega) (by omega) (by omega)
  go_enter Tryz.func61, Tryz.ntmps61
  go_wp2_with (first
    | (at_builtin; refine wpList_append_E _ rfl _ _ _ _ rfl _ _ rfl rfl (hE _) ?_
       rintro v2 w2 ⟨G, ROW, rfl, g1, g2, g3, g4, g5, g6, g7, g8⟩
       rw [hin] at g1
       rw [hin]
       have hgi : ¬ (G = i) := by omega
       have hgim : ¬ (G = i + m) := by omega
       have hbN : b ≠ w.heap.size := Nat.ne_of_lt hO.has.lt
       have hvN : vb < w.heap.size := hv.lt
       have hcA := fun ty dc => copy_own (P := Tryz.prog) (ty := ty) (sT := 24) (o := i) (dl := n + m - i) (dc := dc) (sl := m) (sc := vc) (a := ⟨vb, vo, none⟩) (cs := vs.map Value.string) g3 Tryz.underlying24 ins_size (by rw [List.length_map, hm]; simp only [Nat.min_def]; split <;> omega) (fun j v hj => by rw [Addr.add_lit]; exact ((show w2.cell? ⟨vb, vo + j, none⟩ = w.cell? ⟨vb, vo + j, none⟩ by simp only [World.cell?, g7 _ hvN])).trans (hvs j v hj)) (by rw [List.length_map]; omega) str_one)
    | (refine wpList_copy_E _ rfl _ _ 24 24 rfl _ _ rfl rfl (hcA _ _) ?_
       rintro w3 ⟨k3, k4, k5, k6⟩))
  have hrs : (ovr ROW i (vs.map Value.string)).size = ROW.size := ovr_size _ _ _
  have hdl : ((xs.drop i).map Value.string).length = n - i := by rw [List.length_map, List.length_drop]; omega
  have hcB := fun W (hW : W = w3.drew) ty => copy_own (P := Tryz.prog) (W := W) (ty := ty) (sT := 24) (b := w.heap.size) (o := i + m) (dl := n + m - (i + m)) (dc := G - (i + m)) (sl := n - i) (sc := c - i) (a := ⟨b, o + i, none⟩) (cs := (xs.drop i).map Value.string) (show Own 1 W w.heap.size _ by subst hW; exact k3) Tryz.underlying24 ins_size (by rw [hdl]; simp only [Nat.min_def]; split <;> omega) (fun j v hj => by
    subst hW
    rw [Addr.add_lit]
    have e1 : w3.drew.cell? ⟨b, o + i + j, none⟩ = w.cell? ⟨b, o + i + j, none⟩ := by
      show w3.cell? _ = _
      simp only [World.cell?, k5 b hbN, g7 b hO.has.lt]
    rw [e1, hO.has.cell, Nat.add_assoc]
    rw [List.map_drop, List.getElem?_drop] at hj
    have : i + j < n := by
      have := (List.getElem?_eq_some_iff.1 hj).1
      rw [List.length_map] at this; omega
    exact (hx _ this).trans hj) (by rw [hdl, hrs]; omega) str_one
  obtain ⟨w4, hrun, l3, l4, l5, l6⟩ := hcB _ rfl 3
  have mixed : Tryz.prog.follows .mixedOrders = true := by kernel_rfl
  go_region_law_o (refine step_copy_runI rfl _ _ 24 24 rfl (.slice (some ⟨w.heap.size, i + m, none⟩) (n + m - (i + m)) (G - (i + m))) (.slice (some ⟨b, o + i, none⟩) (n - i) (c - i)) (by simp [Act.eval, Act.put]) (by simp [Act.eval, Act.put]) hrun ?_)
  go_wp2
  go_ret
  refine ⟨_, rfl, w.heap.size, ⟨0, G, _, by rw [List.append_assoc]; simp; omega, ?_, ?_, l3, ?_⟩, (g8.trans k6).trans ((⟨rfl, rfl, rfl⟩ : Same w3 w3.drew).trans l6), ?_, fun k hk hkb => ?_, .inr (Nat.le_refl _)⟩
  · simp only [List.length_append, List.length_take, List.length_drop]; omega
  · rw [ovr_size, hrs]; omega
  · have q2 : i + (vs.map Value.string).length ≤ ROW.size := by rw [List.length_map]; omega
    have q3 : i + m + ((xs.drop i).map Value.string).length ≤ (ovr ROW i (vs.map Value.string)).size := by rw [hdl, hrs]; omega
    refine row_parts (n := n) (m := m) hN hm (Nat.le_refl _) hin2 (fun k hk => ?_) (fun k hk => ?_) (fun k hk => ?_)
    · rw [Nat.zero_add, ovr_get _ _ _ _ q3, if_neg (by omega), ovr_get _ _ _ _ q2, if_neg (by omega), g5 k hk]
      exact hx k (by omega)
    · rw [Nat.zero_add, ovr_get _ _ _ _ q3, if_neg (by omega), ovr_get _ _ _ _ q2, if_pos (by rw [List.length_map]; omega), Nat.add_sub_cancel_left]
    · rw [Nat.zero_add, ovr_get _ _ _ _ q3, if_pos (by rw [hdl]; omega), Nat.add_sub_cancel_left, List.map_drop, List.getElem?_drop]
  · rw [l4]; show _ ≤ w3.heap.size; omega
  · rw [l5 k (by omega)]; show w3.heap[k]? = _; rw [k5 k (by omega), g7 k hk]
set_option maxHeartbeats 4000000 in
set_option maxRecDepth 100000 in
theorem insert_shift {w : World} {b o c i vb vo m vc : Nat} {arr varr : Array Value} {xs vs : List ByteArray} (hO : Own 1 w b arr) (hn : xs.length ≤ c) (ha : o + c ≤ arr.size) (hx : ∀ k, k < xs.length → arr[o + k]? = (xs.map Value.string)[k]?)
    (hv : Has w vb varr) (hva : 0 < varr.size) (hvb : vb ≠ b) (hm : vs.length = m) (hvs : ∀ j v, (vs.map Value.string)[j]? = some v → w.cell? ⟨vb, vo + j, none⟩ = some v) (h0 : 0 < m) (hi : i < xs.length) (hc : xs.length + m ≤ c) (hbig : (xs.length + m) * 16 ≤ 140737488355328) :
    Calls Tryz.prog 61 #[.slice (some ⟨b, o, none⟩) xs.length c, .int .i64 i, .slice (some ⟨vb, vo, none⟩) m vc] w fun e w' => ∃ v', e = .returned v' ∧ Out w w' b v' (xs.take i ++ vs ++ xs.drop i) := by
  have hb1 : ¬ ((m : Int) = 0) := by omega
  have hb2 : ¬ ((i : Int) = (xs.length : Int)) := by omega
  have hb3 : ¬ ((c : Int) < (xs.length : Int) + (m : Int)) := by omega
  generalize hN : xs.length = n at *
  have hw1 : IntKind.i64.wrap ((i : Int) + (m : Int)) = (i : Int) + (m : Int) := by rw [IntKind.wrap_i64]; omega
  have hw2 : IntKind.i64.wrap ((n : Int) + (m : Int)) = (n : Int) + (m : Int) := by rw [IntKind.wrap_i64]; omega
  have hci : ¬ (c = i) := by omega
  have hcim : ¬ (c = i + m) := by omega
  have hb0 : (0 : Int) ≤ (i : Int) + (m : Int) := by omega
  have hb4 : (i : Int) + (m : Int) ≤ (n : Int) + (m : Int) := by omega
  have hil : (i : Int) ≤ (n : Int) := by omega
  have htn : ((i : Int) + (m : Int)).toNat = i + m := by omega
  have hil2 : (i : Int) ≤ (n : Int) + (m : Int) := by omega
  have htn2 : ((n : Int) + (m : Int)).toNat = n + m := by omega
  have hov : ∀ lb cb, (callFunc 62 #[.slice (some ⟨vb, vo, none⟩) m vc, .slice (some ⟨b, o + (i + m), none⟩) lb cb]).run Tryz.prog w = .ok (.value (.bool false)) w := fun lb cb =>
    run_over _ _ _ true true (overlaps_snd w 24 4 9 Tryz.underlying24 1 Tryz.sizeOf9 ⟨vb, vo, none⟩ ⟨b, o + (i + m), none⟩ m vc lb cb hvb hv hva hO (by simp only; omega) rfl)
  have hdl : ((xs.drop i).map Value.string).length = n - i := by rw [List.length_map, List.length_drop]; omega
  obtain ⟨w1, hrun, k3, k4, k5, k6⟩ := copy_own (P := Tryz.prog) (W := w.drew) (ty := 3) (dT := 24) (sT := 24) (b := b) (o := o + (i + m)) (dl := n + m - (i + m)) (dc := c - (i + m)) (sl := n + m - i) (sc := c - i) (a := ⟨b, o + i, none⟩) (cs := (xs.drop i).map Value.string) (drew_own hO) Tryz.underlying24 ins_size (by rw [hdl]; simp only [Nat.min_def]; split <;> omega) (fun j v hj => by
    rw [Addr.add_lit, (drew_own hO).has.cell, Nat.add_assoc]
    rw [List.map_drop, List.getElem?_drop] at hj
    have : i + j < n := by
      have := (List.getElem?_eq_some_iff.1 hj).1
      rw [List.length_map] at this; omega
    exact (hx _ this).trans hj) (by rw [hdl]; omega) str_one
  have hrs : (ovr arr (o + (i + m)) ((xs.drop i).map Value.string)).size = arr.size := ovr_size _ _ _
  have hvl := hv.lt
  have hcA := fun ty dc => copy_own (P := Tryz.prog) (W := w1) (ty := ty) (sT := 24) (o := o + i) (dl := n + m - i) (dc := dc) (sl := m) (sc := vc) (a := ⟨vb, vo, none⟩) (cs := vs.map Value.string) k3 Tryz.underlying24 ins_size (by rw [List.length_map, hm]; simp only [Nat.min_def]; split <;> omega) (fun j v hj => by
    rw [Addr.add_lit]
    exact ((show w1.cell? ⟨vb, vo + j, none⟩ = w.cell? ⟨vb, vo + j, none⟩ by simp only [World.cell?, k5 _ hvb]; rfl)).trans (hvs j v hj)) (by rw [List.length_map, hrs]; omega) str_one
  have mixed : Tryz.prog.follows .mixedOrders = true := by kernel_rfl
  go_enter Tryz.func61, Tryz.ntmps61
  go_wp2_with (simp only [hov])
  go_region_law_o (refine step_copy_runI rfl _ _ 24 24 rfl (.slice (some ⟨b, o + (i + m), none⟩) (n + m - (i + m)) (c - (i + m))) (.slice (some ⟨b, o + i, none⟩) (n + m - i) (c - i)) (by simp [Act.eval, Act.put]) (by simp [Act.eval, Act.put]) hrun ?_)
  go_wp2_with (refine wpList_copy_E _ rfl _ _ 24 24 rfl _ _ rfl rfl (hcA _ _) ?_; rintro w3 ⟨l3, l4, l5, l6⟩)
  go_ret
  have q2 : o + (i + m) + ((xs.drop i).map Value.string).length ≤ arr.size := by rw [hdl]; omega
  have q3 : o + i + (vs.map Value.string).length ≤ (ovr arr (o + (i + m)) ((xs.drop i).map Value.string)).size := by rw [List.length_map, hrs]; omega
  refine ⟨_, rfl, b, ⟨o, c, _, by rw [List.append_assoc]; simp; omega, ?_, ?_, l3, ?_⟩, (⟨rfl, rfl, rfl⟩ : Same w w.drew).trans (k6.trans l6), ?_, fun k hk hkb => ?_, .inl rfl⟩
  · simp only [List.length_append, List.length_take, List.length_drop]; omega
  · rw [ovr_size, hrs]; omega
  · refine row_parts (n := n) (m := m) hN hm (Nat.le_refl _) (Nat.le_of_lt hi) (fun k hk => ?_) (fun k hk => ?_) (fun k hk => ?_)
    · rw [ovr_get _ _ _ _ q3, if_neg (by omega), ovr_get _ _ _ _ q2, if_neg (by omega)]
      exact hx k (by omega)
    · rw [ovr_get _ _ _ _ q3, if_pos (by rw [List.length_map]; omega), show o + (i + k) - (o + i) = k by omega]
    · rw [ovr_get _ _ _ _ q3, if_neg (by rw [List.length_map]; omega), ovr_get _ _ _ _ q2, if_pos (by rw [hdl]; omega), show o + (i + m + k) - (o + (i + m)) = k by omega, List.map_drop, List.getElem?_drop]
  · rw [l4, k4]; exact Nat.le_refl _
  · rw [l5 k hkb, k5 k hkb]; rfl
set_option maxHeartbeats 4000000 in
set_option maxRecDepth 100000 in
theorem insert_end {w : World} {b vb vo m vc : Nat} {varr : Array Value} {v : Value} {xs vs : List ByteArray} (ht : TyOk Tryz.prog 9 .str) (hs : SRow w v xs b)
    (hv : Has w vb varr) (hvl : vo + m ≤ varr.size) (hvb : vb ≠ b) (hm : vs.length = m) (hvs : ∀ k, k < m → varr[vo + k]? = (vs.map Value.string)[k]?) (h0 : 0 < m) (hbig : (xs.length + m) * 16 ≤ 140737488355328) :
    Calls Tryz.prog 61 #[v, .int .i64 xs.length, .slice (some ⟨vb, vo, none⟩) m vc] w fun e w' => ∃ v', e = .returned v' ∧ Out w w' b v' (xs ++ vs) := by
  have hb1 : ¬ ((m : Int) = 0) := by omega
  obtain ⟨a0, n0, c0, rfl, hn0, hnc⟩ : ∃ a n c, v = .slice a n c ∧ n = xs.length ∧ ((a = none → n = 0 ∧ c = 0) ∧ n ≤ c) := by
    rcases hs with ⟨rfl, A, rfl⟩ | ⟨o, c, arr, rfl, h1, _⟩
    · exact ⟨A, 0, 0, rfl, rfl, ⟨fun _ => ⟨rfl, rfl⟩, Nat.le_refl _⟩⟩
    · exact ⟨_, _, c, rfl, rfl, ⟨fun h => (nomatch h), h1⟩⟩
  subst hn0
  have hE := fun ty => append_run (P := Tryz.prog) (t := 24) (te := 9) (e := .str) (ty := ty) (w := w) (nx := xs.length) (ny := m) (v := .slice a0 xs.length c0) (u := .slice (some ⟨vb, vo, none⟩) m vc) Tryz.underlying24 ht (by
      rcases hs with ⟨rfl, A, h⟩ | ⟨o, c, arr, h, h1, h2, h3, h4⟩
      · exact .inl ⟨rfl, A, h⟩
      · exact .inr ⟨b, o, c, arr, h, h3, h1, by simpa [Ty.size] using h2⟩) (.inr ⟨vb, vo, vc, varr, rfl, hv, by simpa [Ty.size] using hvl, fun q hq => by
        obtain ⟨k, hk, rfl⟩ := List.getElem_of_mem hq
        have h5 : (seg varr vo (m * Ty.str.size))[k]? = some (seg varr vo (m * Ty.str.size))[k] := List.getElem?_eq_getElem hk
        rw [seg_get] at h5
        split at h5
        · rename_i h6
          rw [show m * Ty.str.size = m from Nat.mul_one m] at h6
          rw [hvs k h6] at h5
          exact str_one _ (List.mem_of_getElem? h5)
        · cases h5⟩) (by
        show xs.length + m ≤ room 16
        unfold room; omega)
  have hE2 : ∀ ty, ∃ v' w', (Builtin.append_ #[24, 24] ty #[.slice a0 xs.length c0, .slice (some ⟨vb, vo, none⟩) m vc]).run Tryz.prog w = .ok v' w' ∧ Out w w' b v' (xs ++ vs) := by
    intro ty
    obtain ⟨v', w', g1, g2, g3, g4, ⟨h, _⟩ | ⟨b', o', c', arr', rfl, g5, g6, g7, g8, g9, g10⟩⟩ := hE ty
    · omega
    refine ⟨_, w', g1, b', ⟨o', c', arr', by simp [hm], by simpa [hm] using g6, by simpa [Ty.size] using g7, g5, fun k hk => ?_⟩, g2, g3, fun k hk hkb => g4 k hk fun o c n hc he => ?_, ?_⟩
    · rw [List.map_append]
      rw [List.length_append, hm] at hk
      by_cases hk2 : k < xs.length
      · rw [List.getElem?_append_left (by rw [List.length_map]; exact hk2)]
        rcases hs with ⟨rfl, _⟩ | ⟨o, c, arr, h, h1, h2, h3, h4⟩
        · simp at hk2
        · have h5 := g9 b o c arr h h3 k hk2
          have h6 : (seg arr' (o' + k * 1) 1)[0]? = (seg arr (o + k * 1) 1)[0]? := by rw [show (1 : Nat) = Ty.str.size from rfl, h5]
          rw [seg_get, seg_get, if_pos (by omega), if_pos (by omega)] at h6
          simp only [Nat.mul_one, Nat.add_zero] at h6
          rw [h6]
          exact h4 k hk2
      · rw [List.getElem?_append_right (by rw [List.length_map]; omega), List.length_map]
        have h5 := g10 vb vo vc varr rfl hv (k - xs.length) (by omega)
        have h6 : (seg arr' (o' + (xs.length + (k - xs.length)) * 1) 1)[0]? = (seg varr (vo + (k - xs.length) * 1) 1)[0]? := by rw [show (1 : Nat) = Ty.str.size from rfl, h5]
        rw [seg_get, seg_get, if_pos (by omega), if_pos (by omega)] at h6
        simp only [Nat.mul_one, Nat.add_zero] at h6
        rw [show xs.length + (k - xs.length) = k by omega] at h6
        rw [h6]
        exact hvs _ (by omega)
    · rcases hs with ⟨rfl, A, h⟩ | ⟨o2, c2, arr, h, _⟩
      · simp only [Value.slice.injEq] at he h
        obtain ⟨_, _, h9⟩ := h
        obtain ⟨_, _, h8⟩ := he
        omega
      · rw [h] at he
        simp only [Value.slice.injEq, Option.some.injEq, Addr.mk.injEq] at he
        exact hkb he.1.1.symm
    · rcases g8 with ⟨o, c, n, hc, he⟩ | g8
      · rcases hs with ⟨rfl, A, h⟩ | ⟨o2, c2, arr, h, _⟩
        · simp only [Value.slice.injEq] at he h
          obtain ⟨_, _, h9⟩ := h
          obtain ⟨_, _, h8⟩ := he
          omega
        · rw [h] at he
          simp only [Value.slice.injEq, Option.some.injEq, Addr.mk.injEq] at he
          exact .inl he.1.1.symm
      · exact .inr g8
  clear hE
  cases a0 with
  | none =>
    obtain ⟨h1, rfl⟩ := hnc.1 rfl
    rw [h1] at hE2 ⊢
    go_enter Tryz.func61, Tryz.ntmps61
    go_wp2_with (at_builtin; refine wpList_append_E _ rfl _ _ _ _ rfl _ _ rfl rfl (hE2 _) ?_; rintro v2 w2 g1)
    all_goals (go_ret; exact ⟨_, rfl, g1⟩)
  | some a =>
    obtain ⟨ab, ao, asp⟩ := a
    go_enter Tryz.func61, Tryz.ntmps61
    go_wp2_with (at_builtin; refine wpList_append_E _ rfl _ _ _ _ rfl _ _ rfl rfl (hE2 _) ?_; rintro v2 w2 g1)
    all_goals (go_ret; exact ⟨_, rfl, g1⟩)
set_option maxHeartbeats 4000000 in
set_option maxRecDepth 100000 in
theorem replace_end_room {w : World} {b o c i j m vc : Nat} {A : Option Addr} {arr : Array Value} {xs vs : List ByteArray} (hO : Own 1 w b arr) (hn : xs.length ≤ c) (ha : o + c ≤ arr.size) (hx : ∀ k, k < xs.length → arr[o + k]? = (xs.map Value.string)[k]?)
    (hV : Vs w A m vc vs b) (hij : i < j) (hj : j = xs.length) (hc : i + m ≤ c) (hbig : (xs.length + m) * 16 ≤ 140737488355328) :
    Calls Tryz.prog 33 #[.slice (some ⟨b, o, none⟩) xs.length c, .int .i64 i, .int .i64 j, .slice A m vc] w fun e w' => ∃ v', e = .returned v' ∧ Out w w' b v' (xs.take i ++ vs ++ xs.drop j) := by
  obtain ⟨i0, hi0, hz0, hzs, hzb⟩ := info_parts ins_info
  have hm := hV.1
  have hb1 : ¬ ((i : Int) = (j : Int)) := by omega
  have hil : (i : Int) ≤ (j : Int) := by omega
  subst hj
  generalize hN : xs.length = n at *
  have hin : (i : Int) ≤ (n : Int) := by omega
  have q2 : o + i + (vs.map Value.string).length ≤ arr.size := by rw [List.length_map]; omega
  have hys : (xs.take i ++ vs ++ xs.drop n).length = i + m := by rw [List.drop_eq_nil_of_le (by omega), List.append_nil, List.length_append, List.length_take]; omega
  have hcells : ∀ k, k < (xs.take i ++ vs ++ xs.drop n).length → (ovr arr (o + i) (vs.map Value.string))[o + k]? = ((xs.take i ++ vs ++ xs.drop n).map Value.string)[k]? := by
    refine row_parts (n := n) (m := m) hN hm (by omega) (Nat.le_refl _) (fun k hk => ?_) (fun k hk => ?_) (fun k hk => by omega)
    · rw [ovr_get _ _ _ _ q2, if_neg (by omega)]; exact hx k (by omega)
    · rw [ovr_get _ _ _ _ q2, if_pos (by rw [List.length_map]; omega), show o + (i + k) - (o + i) = k by omega]
  generalize (xs.take i ++ vs ++ xs.drop n) = ys at hys hcells ⊢
  by_cases him : i + m < n
  · have himI : (i : Int) + (m : Int) < (n : Int) := by omega
    have himL : (i : Int) + (m : Int) ≤ (n : Int) := by omega
    have him0 : (0 : Int) ≤ (i : Int) + (m : Int) := by omega
    have htn : ((i : Int) + (m : Int)).toNat = i + m := by omega
    have hcim : ¬ (c = i + m) := by omega
    go_enter Tryz.func33, Tryz.ntmps33
    go_wp2_with (first
      | (at_builtin; refine wpList_append_E _ rfl _ _ _ _ rfl _ _ rfl rfl (append_room_E hO Tryz.underlying24 hi0 hzs hV ha hc) ?_
         rintro v2 w2 ⟨rfl, g1, g2, g3, g4⟩
         have hcl := fun ty cc => clear_own (P := Tryz.prog) (ty := ty) (o := o + (i + m)) (n := n - (i + m)) (c := cc) g1 Tryz.underlying24 Tryz.zeroValue9 rfl rfl (by omega) (by rw [ovr_size]; omega))
      | (refine wpList_clear_E _ rfl _ 24 rfl _ rfl (hcl _ _) ?_; rintro w3 ⟨k1, k2, k3, k4⟩))
    go_ret
    refine ⟨_, rfl, b, ⟨o, c, _, by rw [hys]; rfl, by omega, by rw [ovr_size, ovr_size]; exact ha, k1, fun k hk => ?_⟩, g4.trans k4, by omega, fun k hk hkb => (k3 k hkb).trans (g3 k hkb), .inl rfl⟩
    rw [ovr_get _ _ _ _ (by rw [List.length_replicate, ovr_size]; omega), if_neg (by omega)]
    exact hcells k hk
  · have himI : ¬ ((i : Int) + (m : Int) < (n : Int)) := by omega
    go_enter Tryz.func33, Tryz.ntmps33
    go_wp2_with (first
      | (at_builtin; refine wpList_append_E _ rfl _ _ _ _ rfl _ _ rfl rfl (append_room_E hO Tryz.underlying24 hi0 hzs hV ha hc) ?_
         rintro v2 w2 ⟨rfl, g1, g2, g3, g4⟩))
    go_ret
    exact ⟨_, rfl, b, ⟨o, c, _, by rw [hys]; rfl, by omega, by rw [ovr_size]; exact ha, g1, hcells⟩, g4, by omega, fun k hk hkb => g3 k hkb, .inl rfl⟩
set_option maxHeartbeats 4000000 in
set_option maxRecDepth 100000 in
theorem replace_end_grow {w : World} {b o c i j m vc : Nat} {A : Option Addr} {arr : Array Value} {xs vs : List ByteArray} (hO : Own 1 w b arr) (hn : xs.length ≤ c) (ha : o + c ≤ arr.size) (hx : ∀ k, k < xs.length → arr[o + k]? = (xs.map Value.string)[k]?)
    (hV : Vs w A m vc vs b) (hij : i < j) (hj : j = xs.length) (hc : c < i + m) (hbig : (xs.length + m) * 16 ≤ 140737488355328) :
    Calls Tryz.prog 33 #[.slice (some ⟨b, o, none⟩) xs.length c, .int .i64 i, .int .i64 j, .slice A m vc] w fun e w' => ∃ v', e = .returned v' ∧ Out w w' b v' (xs.take i ++ vs ++ xs.drop j) := by
  obtain ⟨i0, hi0, hz0, hzs, hzb⟩ := info_parts ins_info
  have hm := hV.1
  have hb1 : ¬ ((i : Int) = (j : Int)) := by omega
  have hil : (i : Int) ≤ (j : Int) := by omega
  subst hj
  generalize hN : xs.length = n at *
  have hin : (i : Int) ≤ (n : Int) := by omega
  have hys : (xs.take i ++ vs ++ xs.drop n).length = i + m := by rw [List.drop_eq_nil_of_le (by omega), List.append_nil, List.length_append, List.length_take]; omega
  have hparts := fun (R : Array Value) (p : Nat) => row_parts (A := R) (o := p) (n := n) (m := m) hN hm (Nat.le_of_lt hij) (Nat.le_refl _)
  generalize (xs.take i ++ vs ++ xs.drop n) = ys at hys hparts ⊢
  have himI : ¬ ((i : Int) + (m : Int) < (n : Int)) := by omega
  go_enter Tryz.func33, Tryz.ntmps33
  go_wp2_with (first
    | (at_builtin; refine wpList_append_E _ rfl _ _ _ _ rfl _ _ rfl rfl (append_grow_E hO Tryz.underlying24 hi0 hz0 hzs hzb rfl hV (by omega) ha hc (by omega)) ?_
       rintro v2 w2 ⟨G, ROW, rfl, g1, g3, g4, g5, g5b, g6, g7, g8⟩))
  go_ret
  refine ⟨_, rfl, w.heap.size, ⟨0, G, ROW, by rw [hys]; rfl, by omega, by omega, g3, hparts ROW 0 (fun k hk => ?_) (fun k hk => ?_) (fun k hk => by omega)⟩, g8, by omega, fun k hk hkb => g7 k hk, .inr (Nat.le_refl _)⟩
  · rw [Nat.zero_add, g5 k hk]; exact hx k (by omega)
  · rw [Nat.zero_add, g5b k hk]
set_option maxHeartbeats 4000000 in
set_option maxRecDepth 100000 in
theorem replace_grow {w : World} {b o c i j m vc : Nat} {A : Option Addr} {arr : Array Value} {xs vs : List ByteArray} (hO : Own 1 w b arr) (hn : xs.length ≤ c) (ha : o + c ≤ arr.size) (hx : ∀ k, k < xs.length → arr[o + k]? = (xs.map Value.string)[k]?)
    (hV : Vs w A m vc vs b) (hij : i < j) (hj : j < xs.length) (hc : c < i + m + (xs.length - j)) (hbig : (xs.length + m) * 16 ≤ 140737488355328) :
    Calls Tryz.prog 33 #[.slice (some ⟨b, o, none⟩) xs.length c, .int .i64 i, .int .i64 j, .slice A m vc] w fun e w' => ∃ v', e = .returned v' ∧ Out w w' b v' (xs.take i ++ vs ++ xs.drop j) := by
  obtain ⟨i0, hi0, hz0, hzs, hzb⟩ := info_parts ins_info
  have hm := hV.1
  have hb1 : ¬ ((i : Int) = (j : Int)) := by omega
  have hil : (i : Int) ≤ (j : Int) := by omega
  generalize hN : xs.length = n at *
  have hin : (i : Int) ≤ (n : Int) := by omega
  have hjn : (j : Int) ≤ (n : Int) := by omega
  have hb2 : ¬ ((j : Int) = (n : Int)) := by omega
  have hdl : ((xs.drop j).map Value.string).length = n - j := by rw [List.length_map, List.length_drop]; omega
  have hvl : (vs.map Value.string).length = m := by rw [List.length_map]; exact hm
  have hys : (xs.take i ++ vs ++ xs.drop j).length = i + m + (n - j) := by rw [List.length_append, List.length_append, List.length_take, List.length_drop]; omega
  have hparts := fun (R : Array Value) (p : Nat) => row_parts (A := R) (o := p) (n := n) (m := m) hN hm (Nat.le_of_lt hij) (Nat.le_of_lt hj)
  generalize (xs.take i ++ vs ++ xs.drop j) = ys at hys hparts ⊢
  have hw1 : IntKind.i64.wrap ((i : Int) + (m : Int)) = (i : Int) + (m : Int) := by rw [IntKind.wrap_i64]; omega
  have hw2 : IntKind.i64.wrap ((i : Int) + (m : Int) + ((n - j : Nat) : Int)) = (i : Int) + (m : Int) + ((n - j : Nat) : Int) := by rw [IntKind.wrap_i64]; omega
  have mixed : Tryz.prog.follows .mixedOrders = true := by kernel_rfl
  have hb3 : (c : Int) < (i : Int) + (m : Int) + ((n - j : Nat) : Int) := by omega
  have hkk : (i : Int) + (m : Int) + ((n - j : Nat) : Int) - (i : Int) = ((m + (n - j) : Nat) : Int) := by omega
  have hcj : ¬ (c = j) := by omega
  have hci : ¬ (c = i) := by omega
  have hw3 : IntKind.i64.wrap ((m + (n - j) : Nat) : Int) = ((m + (n - j) : Nat) : Int) := by rw [IntKind.wrap_i64]; omega
  have hb0 : (0 : Int) ≤ (i : Int) + (m : Int) := by omega
  have htn : ((i : Int) + (m : Int)).toNat = i + m := by omega
  have hE := fun ty => append_make_E (P := Tryz.prog) (W := w.drew) (ty := ty) (drew_own hO) Tryz.underlying24 Tryz.underlying3 hi0 hz0 hzs hzb rfl (k := m + (n - j)) rfl (show i ≤ c by omega) ha (by omega) (by omega) (by omega)
  go_enter Tryz.func33, Tryz.ntmps33
  go_wp2
  go_region_o
  have hik : i + (m + (n - j)) = i + m + (n - j) := by omega
  go_wp2_with (first
    | (at_builtin; refine wpList_append_E _ rfl _ _ _ _ rfl _ _ rfl rfl (hE _) ?_
       rintro v2 w2 ⟨G, ROW, rfl, g1, g2, g3, g4, g5, g6, g7, g8⟩
       rw [hik] at g1
       rw [hik]
       have hgi : ¬ (G = i) := by omega
       have hgim : ¬ (G = i + m) := by omega
       have hinN : (i : Int) ≤ (i : Int) + (m : Int) + ((n - j : Nat) : Int) := by omega
       have himN : (i : Int) + (m : Int) ≤ (i : Int) + (m : Int) + ((n - j : Nat) : Int) := by omega
       have hbN : b ≠ w.heap.size := Nat.ne_of_lt hO.has.lt
       have hcA := fun ty dc dl (hd : m ≤ dl) => copyv_own (P := Tryz.prog) (ty := ty) (sT := 24) (o := i) (dl := dl) (dc := dc) g3 Tryz.underlying24 ins_size (hV.of_eq fun k hk _ => g7 k hk) hd (by omega))
    | (refine wpList_copy_E _ rfl _ _ 24 24 rfl _ _ rfl rfl (hcA _ _ _ (by omega)) ?_
       rintro w3 ⟨k3, k4, k5, k6⟩))
  have hrs : (ovr ROW i (vs.map Value.string)).size = ROW.size := ovr_size _ _ _
  obtain ⟨w4, hrun, l3, l4, l5, l6⟩ := copy_own (P := Tryz.prog) (W := w3.drew) (ty := 3) (dT := 24) (sT := 24) (b := w.heap.size) (o := i + m) (dl := i + m + (n - j) - (i + m)) (dc := G - (i + m)) (sl := n - j) (sc := c - j) (a := ⟨b, o + j, none⟩) (cs := (xs.drop j).map Value.string) (drew_own k3) Tryz.underlying24 ins_size (by rw [hdl]; simp only [Nat.min_def]; split <;> omega) (fun p v hj => by
    rw [Addr.add_lit]
    have e1 : w3.drew.cell? ⟨b, o + j + p, none⟩ = w.cell? ⟨b, o + j + p, none⟩ := by
      show w3.cell? _ = _
      simp only [World.cell?, k5 b hbN]
      rw [show w2.heap[b]? = w.heap[b]? from g7 b hO.has.lt]
    rw [e1, hO.has.cell, Nat.add_assoc]
    rw [List.map_drop, List.getElem?_drop] at hj
    have : j + p < n := by
      have := (List.getElem?_eq_some_iff.1 hj).1
      rw [List.length_map] at this; omega
    exact (hx _ this).trans hj) (by rw [hdl, hrs]; omega) str_one
  have hci' : ¬ (c = j) := by omega
  go_region_law_o (refine step_copy_runI rfl _ _ 24 24 rfl (.slice (some ⟨w.heap.size, i + m, none⟩) (i + m + (n - j) - (i + m)) (G - (i + m))) (.slice (some ⟨b, o + j, none⟩) (n - j) (c - j)) (by simp [Act.eval, Act.put]) (by simp [Act.eval, Act.put]) hrun ?_)
  go_wp2
  go_ret
  have q2 : i + (vs.map Value.string).length ≤ ROW.size := by rw [hvl]; omega
  have q3 : i + m + ((xs.drop j).map Value.string).length ≤ (ovr ROW i (vs.map Value.string)).size := by rw [hdl, hrs]; omega
  refine ⟨_, rfl, w.heap.size, ⟨0, G, _, by rw [hys]; rfl, by omega, by rw [ovr_size, hrs]; omega, l3, hparts _ 0 (fun k hk => ?_) (fun k hk => ?_) (fun k hk => ?_)⟩, ((⟨rfl, rfl, rfl⟩ : Same w w.drew).trans g8).trans (k6.trans ((⟨rfl, rfl, rfl⟩ : Same w3 w3.drew).trans l6)), ?_, fun k hk hkb => ?_, .inr (Nat.le_refl _)⟩
  · rw [Nat.zero_add, ovr_get _ _ _ _ q3, if_neg (by omega), ovr_get _ _ _ _ q2, if_neg (by omega), g5 k hk]
    exact hx k (by omega)
  · rw [Nat.zero_add, ovr_get _ _ _ _ q3, if_neg (by omega), ovr_get _ _ _ _ q2, if_pos (by rw [hvl]; omega), Nat.add_sub_cancel_left]
  · rw [Nat.zero_add, ovr_get _ _ _ _ q3, if_pos (by rw [hdl]; omega), Nat.add_sub_cancel_left, List.map_drop, List.getElem?_drop]
  · rw [l4]; show _ ≤ w3.heap.size; rw [k4]; exact Nat.le_trans (Nat.le_succ _) (Nat.le_of_eq g6.symm)
  · rw [l5 k (Nat.ne_of_lt hk)]; show w3.heap[k]? = _; rw [k5 k (Nat.ne_of_lt hk)]; exact g7 k hk
set_option maxHeartbeats 4000000 in
set_option maxRecDepth 100000 in
theorem replace_less {w : World} {b o c i j m vc : Nat} {A : Option Addr} {arr : Array Value} {xs vs : List ByteArray} (hO : Own 1 w b arr) (hn : xs.length ≤ c) (ha : o + c ≤ arr.size) (hx : ∀ k, k < xs.length → arr[o + k]? = (xs.map Value.string)[k]?)
    (hV : Vs w A m vc vs b) (hij : i < j) (hj : j < xs.length) (hc : i + m ≤ j) (hbig : (xs.length + m) * 16 ≤ 140737488355328) :
    Calls Tryz.prog 33 #[.slice (some ⟨b, o, none⟩) xs.length c, .int .i64 i, .int .i64 j, .slice A m vc] w fun e w' => ∃ v', e = .returned v' ∧ Out w w' b v' (xs.take i ++ vs ++ xs.drop j) := by
  obtain ⟨i0, hi0, hz0, hzs, hzb⟩ := info_parts ins_info
  have hm := hV.1
  have hb1 : ¬ ((i : Int) = (j : Int)) := by omega
  have hil : (i : Int) ≤ (j : Int) := by omega
  generalize hN : xs.length = n at *
  have hin : (i : Int) ≤ (n : Int) := by omega
  have hjn : (j : Int) ≤ (n : Int) := by omega
  have hb2 : ¬ ((j : Int) = (n : Int)) := by omega
  have hdl : ((xs.drop j).map Value.string).length = n - j := by rw [List.length_map, List.length_drop]; omega
  have hvl : (vs.map Value.string).length = m := by rw [List.length_map]; exact hm
  have hys : (xs.take i ++ vs ++ xs.drop j).length = i + m + (n - j) := by rw [List.length_append, List.length_append, List.length_take, List.length_drop]; omega
  have hparts := fun (R : Array Value) (p : Nat) => row_parts (A := R) (o := p) (n := n) (m := m) hN hm (Nat.le_of_lt hij) (Nat.le_of_lt hj)
  generalize (xs.take i ++ vs ++ xs.drop j) = ys at hys hparts ⊢
  have hw1 : IntKind.i64.wrap ((i : Int) + (m : Int)) = (i : Int) + (m : Int) := by rw [IntKind.wrap_i64]; omega
  have hw2 : IntKind.i64.wrap ((i : Int) + (m : Int) + ((n - j : Nat) : Int)) = (i : Int) + (m : Int) + ((n - j : Nat) : Int) := by rw [IntKind.wrap_i64]; omega
  have mixed : Tryz.prog.follows .mixedOrders = true := by kernel_rfl
  have hb3 : ¬ ((c : Int) < (i : Int) + (m : Int) + ((n - j : Nat) : Int)) := by omega
  have hcj : ¬ (c = j) := by omega
  have hci : ¬ (c = i) := by omega
  have hcim : ¬ (c = i + m) := by omega
  have hb0 : (0 : Int) ≤ (i : Int) + (m : Int) := by omega
  have htn : ((i : Int) + (m : Int)).toNat = i + m := by omega
  have hb4 : (i : Int) + (m : Int) ≤ (j : Int) := by omega
  have hb5 : (0 : Int) ≤ (i : Int) + (m : Int) + ((n - j : Nat) : Int) := by omega
  have hb6 : (i : Int) + (m : Int) + ((n - j : Nat) : Int) ≤ (n : Int) := by omega
  have htn2 : ((i : Int) + (m : Int) + ((n - j : Nat) : Int)).toNat = i + m + (n - j) := by omega
  have hinN : (i : Int) ≤ (i : Int) + (m : Int) + ((n - j : Nat) : Int) := by omega
  have himN : (i : Int) + (m : Int) ≤ (i : Int) + (m : Int) + ((n - j : Nat) : Int) := by omega
  have hcA := fun ty dc dl (hd : m ≤ dl) => copyv_own (P := Tryz.prog) (W := w.drew) (ty := ty) (sT := 24) (o := o + i) (dl := dl) (dc := dc) (drew_own hO) Tryz.underlying24 ins_size (hV.of_eq fun k hk _ => rfl) hd (by omega)
  go_enter Tryz.func33, Tryz.ntmps33
  go_wp2
  go_region_o
  go_wp2_with (refine wpList_copy_E _ rfl _ _ 24 24 rfl _ _ rfl rfl (hcA _ _ _ (by omega)) ?_
               rintro w3 ⟨k3, k4, k5, k6⟩)
  have hrs : (ovr arr (o + i) (vs.map Value.string)).size = arr.size := ovr_size _ _ _
  have q2 : o + i + (vs.map Value.string).length ≤ arr.size := by rw [hvl]; omega
  have q3 : o + (i + m) + ((xs.drop j).map Value.string).length ≤ (ovr arr (o + i) (vs.map Value.string)).size := by rw [hdl, hrs]; omega
  have hrs2 : (ovr (ovr arr (o + i) (vs.map Value.string)) (o + (i + m)) ((xs.drop j).map Value.string)).size = arr.size := by rw [ovr_size, hrs]
  have hcells := hparts (ovr (ovr arr (o + i) (vs.map Value.string)) (o + (i + m)) ((xs.drop j).map Value.string)) o (fun k hk => by
    rw [ovr_get _ _ _ _ q3, if_neg (by omega), ovr_get _ _ _ _ q2, if_neg (by omega)]
    exact hx k (by omega)) (fun k hk => by
    rw [ovr_get _ _ _ _ q3, if_neg (by omega), ovr_get _ _ _ _ q2, if_pos (by rw [hvl]; omega), show o + (i + k) - (o + i) = k by omega]) (fun k hk => by
    rw [ovr_get _ _ _ _ q3, if_pos (by rw [hdl]; omega), show o + (i + m + k) - (o + (i + m)) = k by omega, List.map_drop, List.getElem?_drop])
  obtain ⟨w4, hrun, l3, l4, l5, l6⟩ := copy_own (P := Tryz.prog) (W := w3.drew) (ty := 3) (dT := 24) (sT := 24) (b := b) (o := o + (i + m)) (dl := i + m + (n - j) - (i + m)) (dc := c - (i + m)) (sl := n - j) (sc := c - j) (a := ⟨b, o + j, none⟩) (cs := (xs.drop j).map Value.string) (drew_own k3) Tryz.underlying24 ins_size (by rw [hdl]; simp only [Nat.min_def]; split <;> omega) (fun p v hj => by
    rw [Addr.add_lit, (drew_own k3).has.cell, ovr_get _ _ _ _ q2, if_neg (by rw [hvl]; omega), Nat.add_assoc]
    rw [List.map_drop, List.getElem?_drop] at hj
    have : j + p < n := by
      have := (List.getElem?_eq_some_iff.1 hj).1
      rw [List.length_map] at this; omega
    exact (hx _ this).trans hj) (by rw [hdl, hrs]; omega) str_one
  go_region_law_o (refine step_copy_runI rfl _ _ 24 24 rfl (.slice (some ⟨b, o + (i + m), none⟩) (i + m + (n - j) - (i + m)) (c - (i + m))) (.slice (some ⟨b, o + j, none⟩) (n - j) (c - j)) (by simp [Act.eval, Act.put]) (by simp [Act.eval, Act.put]) hrun ?_)
  have hsm : Same w w4 := (⟨rfl, rfl, rfl⟩ : Same w w.drew).trans (k6.trans ((⟨rfl, rfl, rfl⟩ : Same w3 w3.drew).trans l6))
  have hsz : w4.heap.size = w.heap.size := l4.trans k4
  have hfr : ∀ k, k ≠ b → w4.heap[k]? = w.heap[k]? := fun k hk => (l5 k hk).trans (k5 k hk)
  by_cases htn0 : i + m + (n - j) = n
  · have hnn : n - n = 0 := Nat.sub_self n
    go_wp2_with (refine wpList_clear_E _ rfl _ 24 rfl _ rfl (by simp only [htn0]; exact clear_zero Tryz.underlying24 _ _) ?_; rintro w5 rfl)
    all_goals
      go_ret
      exact ⟨_, rfl, b, ⟨o, _, _, by rw [hys, htn0]; rfl, by omega, by rw [hrs2]; omega, l3, hcells⟩, hsm, by omega, fun k hk hkb => hfr k hkb, .inl rfl⟩
  · have hct : ¬ (c = i + m + (n - j)) := by omega
    have hcl := fun ty cc => clear_own (P := Tryz.prog) (ty := ty) (o := o + (i + m + (n - j))) (n := n - (i + m + (n - j))) (c := cc) l3 Tryz.underlying24 Tryz.zeroValue9 rfl rfl (by omega) (by rw [hrs2]; omega)
    go_wp2_with (refine wpList_clear_E _ rfl _ 24 rfl _ rfl (hcl _ _) ?_; rintro w5 ⟨p1, p2, p3, p4⟩)
    go_ret
    refine ⟨_, rfl, b, ⟨o, c, _, by rw [hys]; rfl, by omega, by rw [ovr_size, hrs2]; exact ha, p1, fun k hk => ?_⟩, hsm.trans p4, by omega, fun k hk hkb => (p3 k hkb).trans (hfr k hkb), .inl rfl⟩
    rw [ovr_get _ _ _ _ (by rw [List.length_replicate, hrs2]; omega), if_neg (by omega)]
    exact hcells k hk
set_option maxHeartbeats 4000000 in
set_option maxRecDepth 100000 in
theorem replace_more {w : World} {b o c i j m vc : Nat} {A : Option Addr} {arr : Array Value} {xs vs : List ByteArray} (hO : Own 1 w b arr) (hn : xs.length ≤ c) (ha : o + c ≤ arr.size) (hx : ∀ k, k < xs.length → arr[o + k]? = (xs.map Value.string)[k]?)
    (hV : Vs w A m vc vs b) (hij : i < j) (hj : j < xs.length) (hmj : j < i + m) (hc : i + m + (xs.length - j) ≤ c) (hbig : (xs.length + m) * 16 ≤ 140737488355328) :
    Calls Tryz.prog 33 #[.slice (some ⟨b, o, none⟩) xs.length c, .int .i64 i, .int .i64 j, .slice A m vc] w fun e w' => ∃ v', e = .returned v' ∧ Out w w' b v' (xs.take i ++ vs ++ xs.drop j) := by
  obtain ⟨i0, hi0, hz0, hzs, hzb⟩ := info_parts ins_info
  have hm := hV.1
  have hb1 : ¬ ((i : Int) = (j : Int)) := by omega
  have hil : (i : Int) ≤ (j : Int) := by omega
  generalize hN : xs.length = n at *
  have hin : (i : Int) ≤ (n : Int) := by omega
  have hjn : (j : Int) ≤ (n : Int) := by omega
  have hb2 : ¬ ((j : Int) = (n : Int)) := by omega
  have hdl : ((xs.drop j).map Value.string).length = n - j := by rw [List.length_map, List.length_drop]; omega
  have hvl : (vs.map Value.string).length = m := by rw [List.length_map]; exact hm
  have hys : (xs.take i ++ vs ++ xs.drop j).length = i + m + (n - j) := by rw [List.length_append, List.length_append, List.length_take, List.length_drop]; omega
  have hparts := fun (R : Array Value) (p : Nat) => row_parts (A := R) (o := p) (n := n) (m := m) hN hm (Nat.le_of_lt hij) (Nat.le_of_lt hj)
  generalize (xs.take i ++ vs ++ xs.drop j) = ys at hys hparts ⊢
  have hw1 : IntKind.i64.wrap ((i : Int) + (m : Int)) = (i : Int) + (m : Int) := by rw [IntKind.wrap_i64]; omega
  have hw2 : IntKind.i64.wrap ((i : Int) + (m : Int) + ((n - j : Nat) : Int)) = (i : Int) + (m : Int) + ((n - j : Nat) : Int) := by rw [IntKind.wrap_i64]; omega
  have mixed : Tryz.prog.follows .mixedOrders = true := by kernel_rfl
  have hb3 : ¬ ((c : Int) < (i : Int) + (m : Int) + ((n - j : Nat) : Int)) := by omega
  have hcj : ¬ (c = j) := by omega
  have hci : ¬ (c = i) := by omega
  have hcim : ¬ (c = i + m) := by omega
  have hb0 : (0 : Int) ≤ (i : Int) + (m : Int) := by omega
  have htn : ((i : Int) + (m : Int)).toNat = i + m := by omega
  have hb4 : ¬ ((i : Int) + (m : Int) ≤ (j : Int)) := by omega
  have hb5 : (0 : Int) ≤ (i : Int) + (m : Int) + ((n - j : Nat) : Int) := by omega
  have hb6 : (i : Int) + (m : Int) + ((n - j : Nat) : Int) ≤ (c : Int) := by omega
  have htn2 : ((i : Int) + (m : Int) + ((n - j : Nat) : Int)).toNat = i + m + (n - j) := by omega
  have hinN : (i : Int) ≤ (i : Int) + (m : Int) + ((n - j : Nat) : Int) := by omega
  have himN : (i : Int) + (m : Int) ≤ (i : Int) + (m : Int) + ((n - j : Nat) : Int) := by omega
  obtain ⟨vb, vo, varr, rfl, v2, v3, v4, v5, v6⟩ := hV.2.resolve_left (by omega)
  have hov : ∀ lb cb, (callFunc 62 #[.slice (some ⟨b, o + (i + m), none⟩) lb cb, .slice (some ⟨vb, vo, none⟩) m vc]).run Tryz.prog w.drew = .ok (.value (.bool false)) w.drew := fun lb cb =>
    run_over _ _ _ true true (overlaps_fst w.drew 24 4 9 Tryz.underlying24 1 Tryz.sizeOf9 ⟨b, o + (i + m), none⟩ ⟨vb, vo, none⟩ lb cb m vc (Ne.symm v2) (drew_own hO) (by simp only; omega) rfl v3 (by omega))
  obtain ⟨w3, hrun, l3, l4, l5, l6⟩ := copy_own (P := Tryz.prog) (W := w.drew.drew) (ty := 3) (dT := 24) (sT := 24) (b := b) (o := o + (i + m)) (dl := i + m + (n - j) - (i + m)) (dc := c - (i + m)) (sl := n - j) (sc := c - j) (a := ⟨b, o + j, none⟩) (cs := (xs.drop j).map Value.string) (drew_own (drew_own hO)) Tryz.underlying24 ins_size (by rw [hdl]; simp only [Nat.min_def]; split <;> omega) (fun p v hj => by
    rw [Addr.add_lit, (drew_own (drew_own hO)).has.cell, Nat.add_assoc]
    rw [List.map_drop, List.getElem?_drop] at hj
    have : j + p < n := by
      have := (List.getElem?_eq_some_iff.1 hj).1
      rw [List.length_map] at this; omega
    exact (hx _ this).trans hj) (by rw [hdl]; omega) str_one
  have hrs : (ovr arr (o + (i + m)) ((xs.drop j).map Value.string)).size = arr.size := ovr_size _ _ _
  have hcA := fun ty dc dl (hd : m ≤ dl) => copyv_own (P := Tryz.prog) (W := w3) (ty := ty) (sT := 24) (o := o + i) (dl := dl) (dc := dc) l3 Tryz.underlying24 ins_size (hV.of_eq (w' := w3) fun k hk hkb => l5 k hkb) hd (by rw [hrs]; omega)
  go_enter Tryz.func33, Tryz.ntmps33
  go_wp2
  go_region_o
  go_wp2_with (simp only [hov])
  go_region_law_o (refine step_copy_runI rfl _ _ 24 24 rfl (.slice (some ⟨b, o + (i + m), none⟩) (i + m + (n - j) - (i + m)) (c - (i + m))) (.slice (some ⟨b, o + j, none⟩) (n - j) (c - j)) (by simp [Act.eval, Act.put]) (by simp [Act.eval, Act.put]) hrun ?_)
  go_wp2_with (refine wpList_copy_E _ rfl _ _ 24 24 rfl _ _ rfl rfl (hcA _ _ _ (by omega)) ?_
               rintro w4 ⟨k3, k4, k5, k6⟩)
  go_ret
  have q2 : o + (i + m) + ((xs.drop j).map Value.string).length ≤ arr.size := by rw [hdl]; omega
  have q3 : o + i + (vs.map Value.string).length ≤ (ovr arr (o + (i + m)) ((xs.drop j).map Value.string)).size := by rw [hvl, hrs]; omega
  refine ⟨_, rfl, b, ⟨o, c, _, by rw [hys]; rfl, by omega, by rw [ovr_size, hrs]; exact ha, k3, hparts _ o (fun k hk => ?_) (fun k hk => ?_) (fun k hk => ?_)⟩, (⟨rfl, rfl, rfl⟩ : Same w w.drew.drew).trans (l6.trans k6), Nat.le_of_eq (k4.trans l4).symm, fun k hk hkb => (k5 k hkb).trans (l5 k hkb), .inl rfl⟩
  · rw [ovr_get _ _ _ _ q3, if_neg (by omega), ovr_get _ _ _ _ q2, if_neg (by omega)]
    exact hx k (by omega)
  · rw [ovr_get _ _ _ _ q3, if_pos (by rw [hvl]; omega), show o + (i + k) - (o + i) = k by omega]
  · rw [ovr_get _ _ _ _ q3, if_neg (by rw [hvl]; omega), ovr_get _ _ _ _ q2, if_pos (by rw [hdl]; omega), show o + (i + m + k) - (o + (i + m)) = k by omega, List.map_drop, List.getElem?_drop]
theorem insert_walk {w : World} {b i m vc : Nat} {A : Option Addr} {v : Value} {xs vs : List ByteArray} (ht : TyOk Tryz.prog 9 .str) (hs : SRow w v xs b) (hV : Vs w A m vc vs b) (h0 : 0 < m) (hi : i ≤ xs.length) (hbig : (xs.length + m) * 16 ≤ 140737488355328) :
    Calls Tryz.prog 61 #[v, .int .i64 i, .slice A m vc] w fun e w' => ∃ v', e = .returned v' ∧ Out w w' b v' (xs.take i ++ vs ++ xs.drop i) := by
  obtain ⟨hm, h | ⟨vb, vo, varr, rfl, v2, v3, v4, v5, v6⟩⟩ := hV
  · omega
  by_cases hin : i = xs.length
  · subst hin
    have := insert_end ht hs v3 v4 v2 (vc := vc) hm v6 h0 hbig
    rw [List.take_of_length_le (Nat.le_refl _), List.drop_of_length_le (Nat.le_refl _), List.append_nil]
    exact this
  · rcases hs with ⟨rfl, _⟩ | ⟨o, c, arr, rfl, h1, h2, h3, h4⟩
    · simp at hi hin; omega
    · by_cases hc : c < xs.length + m
      · exact insert_grow h3 h1 h2 h4 v3 v2 hm (Vs.cells hm v3 v6) h0 (by omega) hc hbig
      · exact insert_shift h3 h1 h2 h4 v3 (by omega) v2 hm (Vs.cells hm v3 v6) h0 (by omega) (by omega) hbig
set_option maxHeartbeats 4000000 in
set_option maxRecDepth 100000 in
theorem replace_same {w : World} {b i m vc : Nat} {A : Option Addr} {v : Value} {xs vs : List ByteArray} (ht : TyOk Tryz.prog 9 .str) (hs : SRow w v xs b) (hV : Vs w A m vc vs b) (h0 : 0 < m) (hi : i ≤ xs.length) (hbig : (xs.length + m) * 16 ≤ 140737488355328) :
    Calls Tryz.prog 33 #[v, .int .i64 i, .int .i64 i, .slice A m vc] w fun e w' => ∃ v', e = .returned v' ∧ Out w w' b v' (xs.take i ++ vs ++ xs.drop i) := by
  have hcall := insert_walk ht hs hV h0 hi hbig
  generalize (xs.take i ++ vs ++ xs.drop i) = ys at hcall ⊢
  obtain ⟨a0, n0, c0, rfl, hn0, hnc⟩ : ∃ a n c, v = .slice a n c ∧ n = xs.length ∧ ((a = none → n = 0 ∧ c = 0) ∧ n ≤ c) := by
    rcases hs with ⟨rfl, A, rfl⟩ | ⟨o, c, arr, rfl, h1, _⟩
    · exact ⟨A, 0, 0, rfl, rfl, ⟨fun _ => ⟨rfl, rfl⟩, Nat.le_refl _⟩⟩
    · exact ⟨_, _, c, rfl, rfl, ⟨fun h => (nomatch h), h1⟩⟩
  obtain ⟨hnone, hle⟩ := hnc
  have hic : i ≤ c0 := by omega
  have hicI : (i : Int) ≤ (c0 : Int) := by omega
  have hin0 : i ≤ n0 := by omega
  clear hs hV hn0 hi hbig
  cases a0 with
  | none =>
    obtain ⟨h1, rfl⟩ := hnone rfl
    subst h1
    obtain rfl : i = 0 := by omega
    rw [show ((0 : Nat) : Int) = 0 from rfl] at hcall ⊢
    go_enter Tryz.func33, Tryz.ntmps33
    go_wp2_with (go_at_call 61; go_must (refine hcall.mono ?_; rintro e1 w1 ⟨v1, rfl, g1⟩))
    all_goals (go_ret; exact ⟨_, rfl, g1⟩)
  | some a =>
    obtain ⟨ab, ao, asp⟩ := a
    go_enter Tryz.func33, Tryz.ntmps33
    go_wp2_with (go_at_call 61; go_must (refine hcall.mono ?_; rintro e1 w1 ⟨v1, rfl, g1⟩))
    all_goals (go_ret; exact ⟨_, rfl, g1⟩)
theorem replace_walk {w : World} {b i j m vc : Nat} {A : Option Addr} {v : Value} {xs vs : List ByteArray} (ht : TyOk Tryz.prog 9 .str) (hs : SRow w v xs b) (hV : Vs w A m vc vs b) (hij : i ≤ j) (h0 : i = j → 0 < m) (hj : j ≤ xs.length) (hbig : (xs.length + m) * 16 ≤ 140737488355328) :
    Calls Tryz.prog 33 #[v, .int .i64 i, .int .i64 j, .slice A m vc] w fun e w' => ∃ v', e = .returned v' ∧ Out w w' b v' (xs.take i ++ vs ++ xs.drop j) := by
  by_cases he : i = j
  · subst he
    exact replace_same ht hs hV (h0 rfl) hj hbig
  · rcases hs with ⟨rfl, _⟩ | ⟨o, c, arr, rfl, h1, h2, h3, h4⟩
    · simp at hj; omega
    · by_cases hjn : j = xs.length
      · by_cases hc : i + m ≤ c
        · exact replace_end_room h3 h1 h2 h4 hV (by omega) hjn hc hbig
        · exact replace_end_grow h3 h1 h2 h4 hV (by omega) hjn (by omega) hbig
      · by_cases hc : c < i + m + (xs.length - j)
        · exact replace_grow h3 h1 h2 h4 hV (by omega) (by omega) hc hbig
        · by_cases hmj : i + m ≤ j
          · exact replace_less h3 h1 h2 h4 hV (by omega) (by omega) hmj hbig
          · exact replace_more h3 h1 h2 h4 hV (by omega) (by omega) (by omega) (by omega) hbig
end
theorem strOk : TyOk Tryz.prog 9 .str := tyOk_tab (b := 0) tabOk_all (by kernel_rfl)
/-- slices.Replace -/
def slices_Replace_Lstring_string.f (xs : List ByteArray) (i j : Int) (vs : List ByteArray) : Option (List ByteArray) := rep1 xs i j vs
def slices_Replace_Lstring_string.S : Abs.Sum := ⟨.cons (.own 5 .str) (.cons (.val (.int .i64)) (.cons (.val (.int .i64)) (.cons (.val (.list .str)) .nil))), [(9, .list .str)], fun _ x => slices_Replace_Lstring_string.f x.1 x.2.1 x.2.2.1 x.2.2.2⟩
theorem slices_Replace_Lstring_string.meets : Meets Tryz.prog 33 slices_Replace_Lstring_string.S :=
  ⟨⟨_, Tryz.f33.body.getD .skip, (by kernel_rfl : Tryz.prog.funcs[33]? = some Tryz.f33), by kernel_rfl, by kernel_rfl⟩, rep_keeps fun w v xs vs b i j m vc A h1 h2 h3 h4 h5 h6 => replace_walk strOk h1 h2 h3 h4 h5 h6⟩
end Go.Abs.G
