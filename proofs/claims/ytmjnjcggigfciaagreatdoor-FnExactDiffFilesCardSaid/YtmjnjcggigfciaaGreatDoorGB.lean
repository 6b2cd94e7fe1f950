import Derived.Test.YtmjnjcggigfciaaGreatDoorE1
import Derived.Test.YtmjnjcggigfciaaGreatDoorE2
import Derived.Test.YtmjnjcggigfciaaGreatDoorE3
import Derived.Test.YtmjnjcggigfciaaGreatDoorE4
import Derived.Test.YtmjnjcggigfciaaGreatDoorProg
import Derived.Test.YtmjnjcggigfciaaGreatDoorExt
import Derived.Deep.DeepMust
import Derived.Deep.LoopGhost
import Derived.LoopN
import Derived.WalkKit
set_option linter.unusedVariables false
set_option linter.unusedSimpArgs false
set_option linter.unusedSectionVars false
namespace Go.Abs.G
open Go Go.Abs Go.Proofs
def TY : TyTab := [(2, (.int .i64), 0),
 (3, (.int .i64), 0),
 (4, .bool, 0),
 (5, (.int .u8), 0),
 (6, (.int .u8), 0),
 (9, .str, 0),
 (10, .str, 0),
 (11, .str, 0),
 (12, (.int .u64), 0),
 (21, (.int .i32), 0),
 (22, (.list (.pair .str (.one (.list .str)))), 40),
 (24, (.list (.pair .str (.pair (.int .i64) (.one (.list (.pair (.int .i64) (.pair (.int .i64) (.one (.list (.pair (.int .i64) (.one .str))))))))))), 48),
 (27, (.list (.pair .str (.one (.list .str)))), 40),
 (34, (.list (.pair .str (.pair (.int .i64) (.one (.list (.pair (.int .i64) (.pair (.int .i64) (.one (.list (.pair (.int .i64) (.one .str))))))))))), 48),
 (43, (.list (.int .u8)), 1),
 (58, (.list .str), 16),
 (59, (.pair .str (.one (.list .str))), 0),
 (60, (.pair .str (.one (.list .str))), 0),
 (62, (.pair .str (.one (.list .str))), 0),
 (63, (.list (.pair (.int .i64) (.pair (.int .i64) (.one (.list (.pair (.int .i64) (.one .str))))))), 40),
 (64, (.pair .str (.pair (.int .i64) (.one (.list (.pair (.int .i64) (.pair (.int .i64) (.one (.list (.pair (.int .i64) (.one .str)))))))))), 0),
 (65, (.pair .str (.pair (.int .i64) (.one (.list (.pair (.int .i64) (.pair (.int .i64) (.one (.list (.pair (.int .i64) (.one .str)))))))))), 0),
 (67, (.list (.pair (.int .i64) (.pair (.int .i64) (.one (.list .str))))), 40),
 (86, (.list (.pair (.int .i64) (.pair (.int .i64) (.one (.list (.pair (.int .i64) (.one .str))))))), 40),
 (87, (.pair .str (.pair (.int .i64) (.one (.list (.pair (.int .i64) (.pair (.int .i64) (.one (.list (.pair (.int .i64) (.one .str)))))))))), 0),
 (88, (.pair .str (.pair (.int .i64) (.one (.list (.pair (.int .i64) (.pair (.int .i64) (.one (.list (.pair (.int .i64) (.one .str)))))))))), 0),
 (111, (.int .u64), 0),
 (112, (.pair (.list (.int .u8)) (.pair (.int .i64) (.one (.int .u64)))), 0),
 (113, (.pair (.list (.int .u8)) (.pair (.int .i64) (.one (.int .u64)))), 0),
 (121, (.pair (.int .i64) (.pair (.int .i64) (.pair (.int .i64) (.one (.int .i64))))), 0),
 (122, (.list (.pair (.int .i64) (.one .str))), 24),
 (123, (.pair (.int .i64) (.pair (.int .i64) (.one (.list (.pair (.int .i64) (.one .str)))))), 0),
 (124, (.pair (.int .i64) (.pair (.int .i64) (.one (.list (.pair (.int .i64) (.one .str)))))), 0),
 (125, (.pair (.int .i64) (.one .str)), 0),
 (126, (.pair (.int .i64) (.one .str)), 0),
 (130, (.pair (.int .i64) (.pair (.int .i64) (.one (.list .str)))), 0),
 (131, (.pair (.int .i64) (.pair (.int .i64) (.one (.list .str)))), 0),
 (133, (.list (.list (.pair .str (.one (.list .str))))), 24),
 (137, (.int .u64), 0),
 (168, (.list (.int .i64)), 8),
 (172, (.list (.pair (.int .i64) (.one (.int .i64)))), 16),
 (177, (.int .i64), 0),
 (185, (.int .u32), 0),
 (188, (.list (.list (.int .i64))), 24),
 (191, (.list (.pair (.int .i64) (.one .str))), 24),
 (192, (.pair (.int .i64) (.pair (.int .i64) (.one (.list (.pair (.int .i64) (.one .str)))))), 0),
 (193, (.pair (.int .i64) (.pair (.int .i64) (.one (.list (.pair (.int .i64) (.one .str)))))), 0),
 (218, (.pair (.int .i64) (.one (.int .i64))), 0),
 (227, (.int .u64), 0),
 (264, (.pair (.int .i64) (.one .str)), 0),
 (278, (.pair (.int .u8) (.one (.int .u8))), 0),
 (279, (.pair (.int .u8) (.one (.int .u8))), 0),
 (287, (.int .i64), 0),
 (301, (.one .str), 0),
 (302, (.one .str), 0),
 (308, (.int .u8), 0),
 (309, (.int .u8), 0),
 (311, (.int .i32), 0),
 (312, (.int .i32), 0)]
def AR : ArrTab := [(121, 4), (218, 2)]
theorem tabOk_all : tabOk Tryz.prog AR TY = true := by kernel_rfl
theorem follows : Tryz.prog.follows .mixedOrders = true := by kernel_rfl
/-- strings.Trim at an ASCII cutset -/
def strings_Trim.f (s t : ByteArray) : Option ByteArray := trim1 s t
def strings_Trim.S : Abs.Sum := ⟨.cons (.val .str) (.cons (.val .str) .nil), [(0, .str)], fun _ x => strings_Trim.f x.1 x.2⟩
theorem strings_Trim.meets : Meets Tryz.prog 177 strings_Trim.S :=
  ⟨⟨_, Tryz.f177.body.getD .skip, (by kernel_rfl : Tryz.prog.funcs[177]? = some Tryz.f177), by kernel_rfl, by kernel_rfl⟩, trim_keeps Go.Proofs.YtmjnjcggigfciaaGreatDoor.Ext.trim_laid⟩
/-- strings.Contains at one byte -/
def strings_Contains.f (s t : ByteArray) : Option Bool := contains1 s t
def strings_Contains.S : Abs.Sum := ⟨.cons (.val .str) (.cons (.val .str) .nil), [(0, .bool)], fun _ x => strings_Contains.f x.1 x.2⟩
theorem strings_Contains.meets : Meets Tryz.prog 289 strings_Contains.S :=
  ⟨⟨_, Tryz.f289.body.getD .skip, (by kernel_rfl : Tryz.prog.funcs[289]? = some Tryz.f289), by kernel_rfl, by kernel_rfl⟩, contains_keeps Go.Proofs.YtmjnjcggigfciaaGreatDoor.Ext.contains_one⟩
section
open Go.RowKit Go.Lib Go.Shelf
theorem grow_info : (Tryz.prog.info? 62).map (fun i => (i.size, i.bytes)) = some (2, 40) := by kernel_rfl
abbrev FlT : Ty := .pair .str (.one (.list .str))
set_option maxHeartbeats 4000000 in
set_option maxRecDepth 100000 in
theorem grow_nil {w : World} {S : Fp} {n : Nat} (ht : TyOk Tryz.prog 62 FlT) (hn : n ≤ 2097152) :
    Calls Tryz.prog 115 #[.slice none 0 0, .int .i64 n] w fun e w' => ∃ v', e = .returned v' ∧ NSt w S FlT [] v' w' := by
  obtain ⟨i0, z, hi⟩ := ht.inf
  have hzl : z.cells.size = 2 := by
    have := rep_len (zero_rep (w := w) (S := fun _ => False) (d := 0) hi.ok)
    have h2 : z.cells.toList.length = 2 := this
    simpa using h2
  have h0 : ¬ ((n : Int) < 0) := by omega
  have hsz : i0.size = 2 ∧ i0.bytes = 40 := by
    have h := grow_info
    rw [hi.info] at h
    simp only [Option.map_some, Option.some.injEq, Prod.mk.injEq] at h
    exact h
  by_cases hc : n ≤ 0
  · obtain rfl : n = 0 := by omega
    have hq : NSt w S FlT [] (.slice none 0 0) w := ⟨fun _ => False, .inl ⟨⟨none, rfl⟩, rfl, fun _ h => h⟩, fun _ h => h.elim, Nat.le_refl _, fun _ _ => rfl, Same.refl _⟩
    go_enter Tryz.func115, Tryz.ntmps115
    go_wp2
    go_ret
    exact ⟨_, rfl, hq⟩
  · have hp : (0 : Int) < (n : Int) := by omega
    have hE : ∀ ty, ∃ v' w', (Builtin.append_ #[27, 3] ty #[.slice none 0 0, .int .i64 (n : Int)]).run Tryz.prog w = .ok v' w' ∧ ∃ b G, v' = .slice (some ⟨b, 0, none⟩) n G ∧ G ≠ 0 ∧ NSt w S FlT [] (.slice (some ⟨b, 0, none⟩) 0 G) w' := by
      intro ty
      have hr := Lib.run_append_grow_zeros w 27 3 ty 62 i0 z .i64 .i64 Tryz.underlying27 Tryz.underlying3 hi.info hi.zero none 0 0 [] (run_firstCells_none w.drew _ 0 0 0) n (by omega) (by omega) (by omega) (by omega) (by rw [hsz.2]; omega) (by rw [hsz.2]; exact growslice_fits (by omega) (by omega))
      rw [show 0 + n = n by omega] at hr
      have hG := grownCap_ge w n 0 62
      refine ⟨_, _, hr, _, _, rfl, by omega, fun b => b = w.heap.size, .inr ⟨w.heap.size, 0, _, _, fun _ => False, rfl, Nat.zero_le _, ?_, ⟨fun _ _ => False, fun i hi => absurd hi (by simp), fun _ _ _ _ _ h => h.elim, fun b => ⟨fun h => h.elim, fun ⟨_, _, h⟩ => h⟩⟩, .inr ⟨Nat.one_pos, alloc_own, fun h => h, fun b => ⟨.inl, fun h => h.elim id fun h => h.elim⟩⟩⟩, fun b hb => ?_, ?_, fun k hk => alloc_lt k hk, ⟨rfl, rfl, rfl⟩⟩
      · show 0 + _ * 2 ≤ _
        simp only [Builtin.zeroCells, Array.size_append, List.size_toArray, List.length_nil, hzl, Array.size_map, Array.size_range]
        omega
      · subst hb
        exact ⟨Nat.le_refl _, by rw [alloc_size]; exact Nat.lt_succ_self _⟩
      · rw [alloc_size]; exact Nat.le_succ _
    clear hi hzl
    go_enter Tryz.func115, Tryz.ntmps115
    go_wp2_with (at_builtin; refine wpList_append_E _ rfl _ _ _ _ rfl _ _ rfl rfl (hE _) ?_; rintro v2 w2 ⟨b, G, rfl, g0, g1⟩)
    all_goals (go_ret; exact ⟨_, rfl, g1⟩)
set_option maxHeartbeats 4000000 in
set_option maxRecDepth 100000 in
theorem cat_walk {w : World} {S : Fp} (ht : TyOk Tryz.prog 62 FlT) (hS : ∀ b, S b → b < w.heap.size) {ob oo oc : Nat} {oarr : Array Value} {s0 s1 : Value} {xs ys : List FlT.den} (hO : Has w ob oarr) (hob : ob < w.heap.size) (h0 : oarr[oo]? = some s0) (h1 : oarr[oo + 1]? = some s1)
    (hx : rep w S (.list FlT) 0 xs [s0] (fun _ => False)) (hy : rep w S (.list FlT) 0 ys [s1] (fun _ => False)) (hb : xs.length + ys.length ≤ 1048576) :
    Calls Tryz.prog 52 #[.slice (some ⟨ob, oo, none⟩) 2 oc] w fun e w' => ∃ v', e = .returned v' ∧ NSt w S FlT (xs ++ ys) v' w' := by
  have c0' : w.cell? ⟨ob, oo, none⟩ = some s0 := by rw [hO.cell]; exact h0
  have c1' : w.cell? ⟨ob, oo + 1, none⟩ = some s1 := by rw [hO.cell]; exact h1
  obtain ⟨a0, k0, e0⟩ : ∃ a c, s0 = .slice a xs.length c := by
    rcases hx with ⟨⟨A, h⟩, h2, _⟩ | ⟨b, o, c, arr, G, h, _⟩
    · exact ⟨A, 0, by rw [h2]; exact (List.cons.inj h).1⟩
    · exact ⟨_, c, (List.cons.inj h).1⟩
  obtain ⟨a1, k1, e1⟩ : ∃ a c, s1 = .slice a ys.length c := by
    rcases hy with ⟨⟨A, h⟩, h2, _⟩ | ⟨b, o, c, arr, G, h, _⟩
    · exact ⟨A, 0, by rw [h2]; exact (List.cons.inj h).1⟩
    · exact ⟨_, c, (List.cons.inj h).1⟩
  subst e0 e1
  have hG := grow_nil (w := w) (S := S) (n := xs.length + ys.length) ht (by omega)
  have hcast : ((xs.length + ys.length : Nat) : Int) = (xs.length : Int) + (ys.length : Int) := by omega
  rw [hcast] at hG
  have hap := fun (zs us : List FlT.den) (v u : Value) (w1 : World) (h : NSt w S FlT zs v w1) (hu : rep w S (.list FlT) 0 us [u] (fun _ => False)) (hl : zs.length + us.length ≤ 2097152) (ty : TypeId) => nst_append (P := Tryz.prog) (t := 27) Tryz.underlying27 ht hS h hu (by show _ ≤ room 40; unfold room; omega) ty
  have hw1 : IntKind.i64.wrap (xs.length : Int) = (xs.length : Int) := by rw [IntKind.wrap_i64]; omega
  have hw2 : IntKind.i64.wrap ((xs.length : Int) + (ys.length : Int)) = (xs.length : Int) + (ys.length : Int) := by rw [IntKind.wrap_i64]; omega
  have hp1 : ¬ ((xs.length : Int) < 0) := by omega
  have hp2 : ¬ ((xs.length : Int) + (ys.length : Int) < 0) := by omega
  go_enter Tryz.func52, Tryz.ntmps52
  go_wp2
  refine wp_loop_rounds 3 ?_
  rw [rounds_succ]
  go_wp2
  rw [rounds_succ]
  go_wp2
  rw [rounds_succ]
  go_wp2_with (go_at_call 115; go_must (refine hG.mono ?_; rintro e1 w1 ⟨v1, rfl, g1⟩))
  have hcell : ∀ (zs : List FlT.den) (v : Value) (wq : World), NSt w S FlT zs v wq → wq.cell? ⟨ob, oo, none⟩ = some (.slice a0 xs.length k0) ∧ wq.cell? ⟨ob, oo + 1, none⟩ = some (.slice a1 ys.length k1) := by
    rintro zs v wq ⟨_, _, _, _, hfr, _⟩
    have := hfr ob hob
    exact ⟨by rw [← c0']; simp only [World.cell?, this], by rw [← c1']; simp only [World.cell?, this]⟩
  obtain ⟨d0, d1⟩ := hcell _ _ _ g1
  refine wp_loop_rounds 3 ?_
  rw [rounds_succ]
  go_wp2_with (at_builtin; refine wpList_append_E _ rfl _ _ _ _ rfl _ _ rfl rfl (hap [] xs _ _ _ g1 hx (by simp; omega) _) ?_; rintro v2 w2 g2; obtain ⟨d2, d3⟩ := hcell _ _ _ g2)
  rw [rounds_succ]
  go_wp2_with (at_builtin; refine wpList_append_E _ rfl _ _ _ _ rfl _ _ rfl rfl (hap ([] ++ xs) ys _ _ _ g2 hy (by simp; omega) _) ?_; rintro v3 w3 g3)
  rw [rounds_succ]
  go_wp2
  go_ret
  exact ⟨_, rfl, g3⟩
def catOk (xss : List (List (ByteArray × List ByteArray))) : Bool := decide (xss.length = 2) && decide ((xss.getD 0 []).length + (xss.getD 1 []).length ≤ 1048576)
def slices_Concat_Limpl_File_impl_File.f (xss : List (List (ByteArray × List ByteArray))) : Option (List (ByteArray × List ByteArray)) := bif catOk xss then some (xss.getD 0 [] ++ xss.getD 1 []) else none
def slices_Concat_Limpl_File_impl_File.S : Abs.Sum := ⟨.cons (.own 0 (.list (.pair .str (.one (.list .str))))) .nil, [(1, .list (.pair .str (.one (.list .str))))], fun _ x => slices_Concat_Limpl_File_impl_File.f x⟩
theorem slices_Concat_Limpl_File_impl_File.keeps (ht : TyOk Tryz.prog 62 FlT) : Keeps Tryz.prog 52 slices_Concat_Limpl_File_impl_File.S := by
  intro n w args x y S Fa hy ha hdis hS hFa hgl
  simp only [slices_Concat_Limpl_File_impl_File.S, slices_Concat_Limpl_File_impl_File.f] at hy
  cases hr : catOk x with
  | false => rw [hr] at hy; cases hy
  | true =>
    rw [hr] at hy
    simp only [cond_true] at hy
    cases hy
    simp only [catOk, Bool.and_eq_true, decide_eq_true_eq] at hr
    simp only [slices_Concat_Limpl_File_impl_File.S, ArgL, Arg] at ha
    obtain ⟨u, us', F1, F2, rfl, k1, ⟨rfl, k4⟩, k5, k6⟩ := ha
    have hFe : ∀ b, Fa b ↔ F1 b := fun b => (k6 b).trans ⟨fun h => h.elim id fun h => absurd h (k4 b), .inl⟩
    obtain ⟨xs, ys, hxy⟩ : ∃ (xs ys : List FlT.den), (x : List (List FlT.den)) = [xs, ys] := by
      match x, hr.1 with
      | [a, b], _ => exact ⟨a, b, rfl⟩
    subst hxy
    have hb : xs.length + ys.length ≤ 1048576 := hr.2
    rcases k1 with ⟨_, h, _⟩ | ⟨ob, oo, oc, oarr, G, hu, q2, q3, q4, q5⟩
    · cases h
    obtain rfl : u = _ := (List.cons.inj hu).1
    have q5' := q5.resolve_left (fun h => by have := h.1; omega)
    obtain ⟨_, o1, o2, o3⟩ := q5'
    obtain ⟨G', r1, _⟩ := q4
    have cell : ∀ (i : Nat) (hi : i < [xs, ys].length), ∃ s, oarr[oo + i]? = some s ∧ rep w S (.list FlT) 0 [xs, ys][i] [s] (fun _ => False) := by
      intro i hi
      have h0 := r1 i hi
      have hl := rep_len h0
      have hl1 : (seg oarr (oo + i * 1) 1).length = 1 := hl
      obtain ⟨s, hs⟩ := List.length_eq_one_iff.1 hl1
      refine ⟨s, ?_, ?_⟩
      · have : (seg oarr (oo + i * 1) 1)[0]? = some s := by rw [hs]; rfl
        rw [seg_get, if_pos (by omega), Nat.mul_one, Nat.add_zero] at this
        exact this
      · have h0' : rep w S (.list FlT) 0 [xs, ys][i] (seg oarr (oo + i * 1) 1) (G' i) := h0
        rw [hs] at h0'
        exact rep_iff h0' fun b => ⟨fun h => h.elim, fun h => rep_none (.inl rfl) h0' b h⟩
    obtain ⟨s0, p0, p1⟩ := cell 0 (by simp)
    obtain ⟨s1, p2, p3⟩ := cell 1 (by simp)
    refine Calls.mono (cat_walk ht hS o1.has o1.has.lt p0 p2 p1 p3 hb) ?_
    rintro e w' ⟨v', rfl, F, g1, g2, g3, g4, g5⟩
    refine ⟨[v'], S, F, fun _ => False, rfl, { hw := fun b h _ => g4 b h, hsz := g3, hsame := g5, h1 := fun b h => h.elim (fun h => h) fun h => h.elim, h2 := fun b h => .inl h, h3 := fun b h => Nat.lt_of_lt_of_le (hS b h) g3, h4 := fun b h => h.elim (fun h => ⟨.inr (g2 b h).1, fun hs => absurd (hS b hs) (by have := (g2 b h).1; omega), (g2 b h).2⟩) fun h => h.elim, h5 := fun b _ h => h }, ?_, ?_⟩
    · show ResL w' S [(1, .list FlT)] (DL.left (b := []) (xs ++ ys)) [v'] F
      simp only [ResL]
      exact ⟨[v'], [], F, fun _ => False, rfl, g1, ⟨rfl, fun _ h => h⟩, fun _ _ h => h, fun b => ⟨.inl, fun h => h.elim (fun h => h) fun h => h.elim⟩⟩
    · show ArgL w' S (Par.cons .skip .nil) () [_] (fun _ => False)
      simp only [ArgL, Arg]
      exact ⟨_, [], fun _ => False, fun _ => False, rfl, fun _ h => h, ⟨rfl, fun _ h => h⟩, fun _ _ h => h, fun b => ⟨.inl, fun h => h.elim (fun h => h) fun h => h⟩⟩
end
theorem slices_Concat_Limpl_File_impl_File.meets : Meets Tryz.prog 52 slices_Concat_Limpl_File_impl_File.S :=
  ⟨⟨_, Tryz.f52.body.getD .skip, (by kernel_rfl : Tryz.prog.funcs[52]? = some Tryz.f52), by kernel_rfl, by kernel_rfl⟩, slices_Concat_Limpl_File_impl_File.keeps (tyOk_tab (b := 0) tabOk_all (by kernel_rfl))⟩
/-- slices.Sort -/
def slices_Sort_Lstring_string.f (xs : List ByteArray) : Option (List ByteArray) := sort1 xs
def slices_Sort_Lstring_string.S : Abs.Sum := ⟨.cons (.io 9 .str) .nil, [], fun _ x => slices_Sort_Lstring_string.f x⟩
theorem slices_Sort_Lstring_string.meets : Meets Tryz.prog 53 slices_Sort_Lstring_string.S :=
  ⟨⟨_, Tryz.f53.body.getD .skip, (by kernel_rfl : Tryz.prog.funcs[53]? = some Tryz.f53), by kernel_rfl, by kernel_rfl⟩, sort_keeps (fun blk off cap ss w h1 h2 h3 => AnyM.slices_Sort_string Go.Proofs.YtmjnjcggigfciaaGreatDoor.Ext.sortLays blk off cap ss w h1 h2 h3) (fun p cap w => AnyM.slices_Sort_string_none Go.Proofs.YtmjnjcggigfciaaGreatDoor.Ext.sortLays p cap w)⟩
/-- slices.Compact -/
def slices_Compact_Lstring_string.f (xs : List ByteArray) : Option (List ByteArray) := compact1 xs
def slices_Compact_Lstring_string.S : Abs.Sum := ⟨.cons (.own 5 .str) .nil, [(9, .list .str)], fun _ x => slices_Compact_Lstring_string.f x⟩
theorem slices_Compact_Lstring_string.meets : Meets Tryz.prog 54 slices_Compact_Lstring_string.S :=
  ⟨⟨_, Tryz.f54.body.getD .skip, (by kernel_rfl : Tryz.prog.funcs[54]? = some Tryz.f54), by kernel_rfl, by kernel_rfl⟩, compact_keeps (fun blk off cap zs w h1 h2 h3 => Any.slices_Compact_string Go.Proofs.YtmjnjcggigfciaaGreatDoor.Ext.compactLays blk off cap zs w h1 h2 h3) (fun p cap w => Any.slices_Compact_string_empty Go.Proofs.YtmjnjcggigfciaaGreatDoor.Ext.compactLays p cap w)⟩
/-- slices.Clone -/
def slices_Clone_LLint_Lint.f (xs : List (List Int)) : Option (List (List Int)) := clone1 24 xs
def slices_Clone_LLint_Lint.S : Abs.Sum := ⟨.cons (.val (.list (.list (.int .i64)))) .nil, [(1, .list (.list (.int .i64)))], fun _ x => slices_Clone_LLint_Lint.f x⟩
theorem slices_Clone_LLint_Lint.meets : Meets Tryz.prog 255 slices_Clone_LLint_Lint.S :=
  ⟨⟨_, Tryz.f255.body.getD .skip, (by kernel_rfl : Tryz.prog.funcs[255]? = some Tryz.f255), by kernel_rfl, by kernel_rfl⟩,
    clone_keeps (e := (.list (.int .i64))) (d := 1) (B := 24) (te := 168) Go.Proofs.YtmjnjcggigfciaaGreatDoor.Ext.clone_f255 rfl rfl (tyOk_tab (b := 8) tabOk_all (by kernel_rfl)) (bytesIs (by kernel_rfl)) rfl⟩
/-- slices.Clone -/
def slices_Clone_Lstring_string.f (xs : List ByteArray) : Option (List ByteArray) := clone1 16 xs
def slices_Clone_Lstring_string.S : Abs.Sum := ⟨.cons (.val (.list .str)) .nil, [(9, .list .str)], fun _ x => slices_Clone_Lstring_string.f x⟩
theorem slices_Clone_Lstring_string.meets : Meets Tryz.prog 71 slices_Clone_Lstring_string.S :=
  ⟨⟨_, Tryz.f71.body.getD .skip, (by kernel_rfl : Tryz.prog.funcs[71]? = some Tryz.f71), by kernel_rfl, by kernel_rfl⟩,
    clone_keeps (e := .str) (d := 9) (B := 16) (te := 9) Go.Proofs.YtmjnjcggigfciaaGreatDoor.Ext.clone_f71 rfl rfl (tyOk_tab (b := 0) tabOk_all (by kernel_rfl)) (bytesIs (by kernel_rfl)) rfl⟩
end Go.Abs.G
