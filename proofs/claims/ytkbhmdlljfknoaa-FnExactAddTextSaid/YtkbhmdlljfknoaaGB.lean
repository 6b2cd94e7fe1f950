import Derived.Test.YtkbhmdlljfknoaaE1
import Derived.Test.YtkbhmdlljfknoaaE2
import Derived.Test.YtkbhmdlljfknoaaE3
import Derived.Test.YtkbhmdlljfknoaaProg
import Derived.Test.YtkbhmdlljfknoaaExt
import Derived.Deep.DeepMust
import Derived.Deep.LoopGhost
import Derived.WalkKit
set_option linter.unusedVariables false
set_option linter.unusedSimpArgs false
set_option linter.unusedSectionVars false
namespace Go.Abs.G
open Go Go.Abs Go.Proofs
def TY : TyTab := [(2, (.int .i64), 0),
 (3, (.int .i64), 0),
 (4, .bool, 0),
 (5, (.int .u8), 0),
 (6, (.int .u8), 0),
 (9, .str, 0),
 (10, .str, 0),
 (11, .str, 0),
 (12, (.int .u64), 0),
 (21, (.int .i32), 0),
 (22, (.list .str), 16),
 (23, (.list (.list (.pair (.int .i64) (.pair (.int .i64) (.one (.list .str)))))), 24),
 (24, (.pair (.list .str) (.one (.list (.list (.pair (.int .i64) (.pair (.int .i64) (.one (.list .str)))))))), 0),
 (25, (.pair (.list .str) (.one (.list (.list (.pair (.int .i64) (.pair (.int .i64) (.one (.list .str)))))))), 0),
 (28, (.list (.list (.pair (.int .i64) (.pair (.int .i64) (.one (.list .str)))))), 24),
 (29, (.pair (.list .str) (.one (.list (.list (.pair (.int .i64) (.pair (.int .i64) (.one (.list .str)))))))), 0),
 (30, (.pair (.list .str) (.one (.list (.list (.pair (.int .i64) (.pair (.int .i64) (.one (.list .str)))))))), 0),
 (39, (.list (.int .u8)), 1),
 (50, (.list (.pair (.int .i64) (.pair (.int .i64) (.one (.list .str))))), 40),
 (51, (.list (.pair (.int .i64) (.one .str))), 24),
 (52, (.pair (.int .i64) (.pair (.int .i64) (.one (.list (.pair (.int .i64) (.one .str)))))), 0),
 (53, (.pair (.int .i64) (.pair (.int .i64) (.one (.list (.pair (.int .i64) (.one .str)))))), 0),
 (56, (.list (.pair (.int .i64) (.pair (.int .i64) (.one (.list (.pair (.int .i64) (.one .str))))))), 40),
 (59, (.pair (.int .i64) (.one .str)), 0),
 (60, (.pair (.int .i64) (.one .str)), 0),
 (67, (.list (.list .str)), 24),
 (73, (.list (.pair (.int .i64) (.pair (.int .i64) (.one (.list (.pair (.int .i64) (.one .str))))))), 40),
 (75, (.list (.int .i64)), 8),
 (96, (.list (.pair (.int .i64) (.pair (.int .i64) (.pair (.int .i64) (.one (.list .str)))))), 48),
 (99, (.list (.pair (.int .i64) (.pair (.int .i64) (.pair (.int .i64) (.one (.list .str)))))), 48),
 (120, (.pair (.int .i64) (.pair (.int .i64) (.one (.list .str)))), 0),
 (121, (.pair (.int .i64) (.pair (.int .i64) (.one (.list .str)))), 0),
 (124, (.int .u64), 0),
 (125, (.pair (.list (.int .u8)) (.pair (.int .i64) (.one (.int .u64)))), 0),
 (126, (.pair (.list (.int .u8)) (.pair (.int .i64) (.one (.int .u64)))), 0),
 (141, (.list (.pair (.int .i64) (.one .str))), 24),
 (142, (.pair (.int .i64) (.pair (.int .i64) (.one (.list (.pair (.int .i64) (.one .str)))))), 0),
 (143, (.pair (.int .i64) (.pair (.int .i64) (.one (.list (.pair (.int .i64) (.one .str)))))), 0),
 (162, (.pair (.int .i64) (.pair (.int .i64) (.pair (.int .i64) (.one (.list .str))))), 0),
 (163, (.pair (.int .i64) (.pair (.int .i64) (.pair (.int .i64) (.one (.list .str))))), 0),
 (167, (.pair (.int .i64) (.pair (.int .i64) (.pair (.int .i64) (.one (.list .str))))), 0),
 (174, (.list (.pair (.int .i64) (.pair (.int .i64) (.one (.list .str))))), 40),
 (201, (.pair (.int .i64) (.pair (.int .i64) (.one (.list .str)))), 0),
 (203, (.list (.pair (.int .i64) (.one (.int .i64)))), 16),
 (207, (.list (.list (.int .i64))), 24),
 (212, (.int .u64), 0),
 (215, (.pair (.int .i64) (.one .str)), 0),
 (222, (.pair (.int .i64) (.one (.int .i64))), 0),
 (230, (.int .u32), 0),
 (238, (.int .u8), 0),
 (239, (.int .u8), 0),
 (242, (.int .i32), 0),
 (243, (.int .i32), 0)]
def AR : ArrTab := [(222, 2)]
theorem tabOk_all : tabOk Try.prog AR TY = true := by kernel_rfl
theorem follows : Try.prog.follows .mixedOrders = true := by kernel_rfl
/-- strings.Contains at one byte -/
def strings_Contains.f (s t : ByteArray) : Option Bool := contains1 s t
def strings_Contains.S : Abs.Sum := ⟨.cons (.val .str) (.cons (.val .str) .nil), [(0, .bool)], fun _ x => strings_Contains.f x.1 x.2⟩
theorem strings_Contains.meets : Meets Try.prog 211 strings_Contains.S :=
  ⟨⟨_, Try.f211.body.getD .skip, (by kernel_rfl : Try.prog.funcs[211]? = some Try.f211), by kernel_rfl, by kernel_rfl⟩, contains_keeps Go.Proofs.Ytkbhmdlljfknoaa.Ext.contains_one⟩
/-- slices.Clone -/
def slices_Clone_Lstring_string.f (xs : List ByteArray) : Option (List ByteArray) := clone1 16 xs
def slices_Clone_Lstring_string.S : Abs.Sum := ⟨.cons (.val (.list .str)) .nil, [(9, .list .str)], fun _ x => slices_Clone_Lstring_string.f x⟩
theorem slices_Clone_Lstring_string.meets : Meets Try.prog 120 slices_Clone_Lstring_string.S :=
  ⟨⟨_, Try.f120.body.getD .skip, (by kernel_rfl : Try.prog.funcs[120]? = some Try.f120), by kernel_rfl, by kernel_rfl⟩,
    clone_keeps (e := .str) (d := 9) (B := 16) (te := 9) Go.Proofs.Ytkbhmdlljfknoaa.Ext.clone_f120 rfl rfl (tyOk_tab (b := 0) tabOk_all (by kernel_rfl)) (bytesIs (by kernel_rfl)) rfl⟩
/-- slices.Clone -/
def slices_Clone_LLint_Lint.f (xs : List (List Int)) : Option (List (List Int)) := clone1 24 xs
def slices_Clone_LLint_Lint.S : Abs.Sum := ⟨.cons (.val (.list (.list (.int .i64)))) .nil, [(1, .list (.list (.int .i64)))], fun _ x => slices_Clone_LLint_Lint.f x⟩
theorem slices_Clone_LLint_Lint.meets : Meets Try.prog 230 slices_Clone_LLint_Lint.S :=
  ⟨⟨_, Try.f230.body.getD .skip, (by kernel_rfl : Try.prog.funcs[230]? = some Try.f230), by kernel_rfl, by kernel_rfl⟩,
    clone_keeps (e := (.list (.int .i64))) (d := 1) (B := 24) (te := 75) Go.Proofs.Ytkbhmdlljfknoaa.Ext.clone_f230 rfl rfl (tyOk_tab (b := 8) tabOk_all (by kernel_rfl)) (bytesIs (by kernel_rfl)) rfl⟩
/-- slices.Clone -/
def slices_Clone_Limpl_Hunk_impl_Hunk.f (xs : List (Int × Int × (List ByteArray))) : Option (List (Int × Int × (List ByteArray))) := clone1 40 xs
def slices_Clone_Limpl_Hunk_impl_Hunk.S : Abs.Sum := ⟨.cons (.val (.list (.pair (.int .i64) (.pair (.int .i64) (.one (.list .str)))))) .nil, [(1, .list (.pair (.int .i64) (.pair (.int .i64) (.one (.list .str)))))], fun _ x => slices_Clone_Limpl_Hunk_impl_Hunk.f x⟩
theorem slices_Clone_Limpl_Hunk_impl_Hunk.meets : Meets Try.prog 209 slices_Clone_Limpl_Hunk_impl_Hunk.S :=
  ⟨⟨_, Try.f209.body.getD .skip, (by kernel_rfl : Try.prog.funcs[209]? = some Try.f209), by kernel_rfl, by kernel_rfl⟩,
    clone_keeps (e := (.pair (.int .i64) (.pair (.int .i64) (.one (.list .str))))) (d := 1) (B := 40) (te := 121) Go.Proofs.Ytkbhmdlljfknoaa.Ext.clone_f209 rfl rfl (tyOk_tab (b := 0) tabOk_all (by kernel_rfl)) (bytesIs (by kernel_rfl)) rfl⟩
section
open Go.RowKit Go.Lib
abbrev HkT : Ty := .pair (.int .i64) (.pair (.int .i64) (.one (.list .str)))
/-- a clone, in few words -/
theorem clone_calls {P : Program} {f : Nat} {e : Ty} {d B : Nat} (hk : Keeps P f (cloneS e d B)) {w : World} {S : Fp} {xs : List e.den} {v : Value} (hr : rep w S (.list e) 0 xs [v] (fun _ => False)) (hS : ∀ b, S b → b < w.heap.size) (hl : xs.length ≤ room B) (hgl : Gl P w S) :
    Calls P f #[v] w fun e' w' => ∃ v' F S', e' = .returned v' ∧ Below w.heap.size w w' ∧ rep w' S' (.list e) d xs [v'] F ∧ (∀ b, S b → S' b) ∧ (∀ b, S' b → b < w'.heap.size) ∧ (∀ b, F b → w.heap.size ≤ b ∧ b < w'.heap.size ∧ ¬ S' b) := by
  have hy : (cloneS e d B).run 0 xs = some xs := by
    show clone1 B xs = _
    unfold clone1
    rw [decide_eq_true hl]; rfl
  have ha : ArgL w S (cloneS e d B).pars xs [v] (fun _ => False) := by
    simp only [ArgL, Arg]
    exact ⟨v, [], fun _ => False, fun _ => False, rfl, ⟨⟨[v], hr, rfl⟩, fun _ h => h⟩, ⟨rfl, fun _ h => h⟩, fun _ h => h.elim, fun b => ⟨fun h => h.elim, fun h => h.elim id id⟩⟩
  refine Calls.mono (hk 0 w [v] xs xs S (fun _ => False) hy ha (fun _ h => h.elim) hS (fun _ h => h.elim) hgl) ?_
  rintro e' w' ⟨us, S', Fr, Fo, rfl, hw, h1, _⟩
  simp only [ResL] at h1
  obtain ⟨cs, us', F1, F2, rfl, h2, ⟨rfl, h3⟩, h4, h5⟩ := h1
  have hlen := rep_len h2
  obtain ⟨v', rfl⟩ : ∃ v', cs = [v'] := List.length_eq_one_iff.1 hlen
  refine ⟨v', F1, S', rfl, ⟨hw.hsame.os, hw.hsame.tape, hw.hsame.output, hw.hsz, fun k hk => hw.hw k hk fun h => h⟩, h2, fun b h => hw.h1 b (.inl h), hw.h3, fun b h => ?_⟩
  obtain ⟨k1, k2, k3⟩ := hw.h4 b (.inl ((h5 b).2 (.inl h)))
  exact ⟨k1.elim (fun h => h.elim) id, k3, k2⟩
theorem hk_cells {w : World} {S F : Fp} {d : Nat} {x : HkT.den} {cs : List Value} (h : rep w S HkT d x cs F) : ∃ nv, cs = [.int .i64 x.1, .int .i64 x.2.1, nv] ∧ rep w S (.list .str) d x.2.2 [nv] F := by
  have hl := rep_len h
  match cs, hl with
  | [a, b, nv], _ =>
    obtain ⟨F1, F2, k1, ⟨F3, F4, k2, k3, _, k5⟩, _, k4⟩ := h
    have e1 := k1.1
    have e2 := k2.1
    have f1 := k1.2
    have f2 := k2.2
    simp only [Ty.size, List.take_succ_cons, List.take_zero, List.drop_succ_cons, List.drop_zero, List.cons.injEq, and_true] at e1 e2
    subst e1 e2
    exact ⟨nv, rfl, rep_iff k3 fun b => by
      rw [k4, k5]
      exact ⟨fun h => (h.resolve_left (f1 b)).resolve_left (f2 b), fun h => .inr (.inr h)⟩⟩
theorem cell_seg {w : World} {B : Nat} {arr : Array Value} {p n : Nat} {cs : List Value} (h : Has w B arr) (hs : seg arr p n = cs) {j : Nat} (hj : j < cs.length) : w.cell? ⟨B, p + j, none⟩ = some cs[j] := by
  subst hs
  have h1 : (seg arr p n)[j]? = some (seg arr p n)[j] := List.getElem?_eq_getElem hj
  rw [seg_get] at h1
  rw [h.cell]
  split at h1
  · exact h1
  · cases h1
theorem rep_slice {w : World} {S F : Fp} {e : Ty} {d : Nat} {x : (Ty.list e).den} {v : Value} (h : rep w S (.list e) d x [v] F) : ∃ a n c, v = .slice a n c := by
  rcases h with ⟨⟨A, h⟩, _⟩ | ⟨b, o, c, arr, G, h, _⟩
  · exact ⟨A, 0, 0, (List.cons.inj h).1⟩
  · exact ⟨_, _, _, (List.cons.inj h).1⟩
theorem alloc_cell (w : World) (cs : Array Value) (t : TypeId) {k : Nat} {v : Value} (h : cs[k]? = some v) : (w.alloc (.cells cs t)).cell? ⟨w.heap.size, k, none⟩ = some v := by
  unfold World.alloc World.cell?
  simp only [Array.getElem?_push_size]
  exact h
structure CInv (w0 : World) (S : Fp) (xs : List HkT.den) (B o c i : Nat) (wr : World) : Prop where
  ex : ∃ arr G, Own wr B arr ∧ o + c * 3 ≤ arr.size ∧ reps (rep wr S HkT 8) 3 (xs.take i) arr o G ∧
    (∀ j (h : j < xs.length), i ≤ j → rep wr S HkT 0 xs[j] (seg arr (o + j * 3) 3) (fun _ => False)) ∧ ∀ b, G b → w0.heap.size ≤ b ∧ b < wr.heap.size ∧ b ≠ B
  bel : Below w0.heap.size w0 wr
  hB : w0.heap.size ≤ B
  hSB : ¬ S B
  hS : ∀ b, S b → b < wr.heap.size
theorem rep_dd {w : World} {S S' F : Fp} {d d' : Nat} {x : List ByteArray} {cs : List Value} (h : rep w S (.list .str) (d + 1) x cs F) : rep w S' (.list .str) (d' + 1) x cs F := by
  rcases h with h | ⟨b, o, c, arr, G, h1, h2, h3, h4, h5⟩
  · exact .inl h
  · rcases h5 with h5 | h5
    · omega
    · exact .inr ⟨b, o, c, arr, G, h1, h2, h3, reps_imp h4 fun x cs G' _ _ h => h, .inr ⟨Nat.succ_pos _, h5.2⟩⟩
theorem below_up {B : Nat} {w w' : World} (h : Below B w w') {C : Nat} (hc : C ≤ B) : Below C w w' := ⟨h.os, h.tape, h.output, h.size, fun k hk => h.block k (Nat.lt_of_lt_of_le hk hc)⟩
theorem below_set {C : Nat} {w w' : World} (h : Below C w w') {B p : Nat} {v : Value} (hB : C ≤ B) : Below C w (w'.setCell ⟨B, p, none⟩ v) :=
  ⟨h.os, h.tape, h.output, by rw [setCell_size]; exact h.size, fun k hk => (setCell_other (by show k ≠ B; omega)).trans (h.block k hk)⟩
theorem hk_up {w : World} {S S' F : Fp} {x : HkT.den} {cs : List Value} (h : rep w S HkT 8 x cs F) : rep w S' HkT 8 x cs F := by
  obtain ⟨F1, F2, k1, ⟨F3, F4, k2, k3, k6, k5⟩, k7, k4⟩ := h
  exact ⟨F1, F2, k1, ⟨F3, F4, k2, rep_dd (d := 7) (d' := 7) k3, k6, k5⟩, k7, k4⟩
def gf (i : Nat) (G' : Nat → Fp) (F2 : Fp) (j : Nat) : Fp := if j < i then G' j else F2
theorem gf_lt {i j : Nat} {G' : Nat → Fp} {F2 : Fp} (h : j < i) : gf i G' F2 j = G' j := if_pos h
theorem gf_ge {i j : Nat} {G' : Nat → Fp} {F2 : Fp} (h : ¬ j < i) : gf i G' F2 j = F2 := if_neg h
theorem cinv_step {w0 wr wa w2 : World} {S S2 F2 : Fp} {xs : List HkT.den} {B o c i : Nat} {v2 : Value} (hi : CInv w0 S xs B o c i wr) (hlt : i < xs.length) (hc : xs.length ≤ c) (ha : Below wr.heap.size wr wa) (h2 : Below wa.heap.size wa w2)
    (hr2 : rep w2 S2 (.list .str) 9 xs[i].2.2 [v2] F2) (hF2 : ∀ b, F2 b → wa.heap.size ≤ b ∧ b < w2.heap.size) : CInv w0 S xs B o c (i + 1) (w2.setCell ⟨B, o + i * 3 + 2, none⟩ v2) := by
  obtain ⟨⟨arr, G, i2, i3, ⟨G', i4, i4b, i4c⟩, i5, i6⟩, bel, hB, hSB, hS⟩ := hi
  have s1 := bel.size
  have s2 := ha.size
  have s3 := h2.size
  have hBl : B < wr.heap.size := i2.has.lt
  have same : ∀ b, b < wr.heap.size → b ≠ B → (w2.setCell ⟨B, o + i * 3 + 2, none⟩ v2).heap[b]? = wr.heap[b]? := fun b hb hne => (setCell_other hne).trans ((h2.block b (by omega)).trans (ha.block b hb))
  have own2 : Own w2 B arr := i2.of_eq ((h2.block B (by omega)).trans (ha.block B hBl))
  have sg : ∀ j, j ≠ i → seg (arr.setIfInBounds (o + i * 3 + 2) v2) (o + j * 3) 3 = seg arr (o + j * 3) 3 := fun j hj => seg_ext fun k hk => Array.getElem?_setIfInBounds_ne (by omega)
  have fS : ∀ b, S b → (w2.setCell ⟨B, o + i * 3 + 2, none⟩ v2).heap[b]? = wr.heap[b]? := fun b hb => same b (hS b hb) (fun e => hSB (e ▸ hb))
  have hln : (xs.take i).length = i := by rw [List.length_take]; omega
  have hln1 : (xs.take (i + 1)).length = i + 1 := by rw [List.length_take]; omega
  refine ⟨⟨arr.setIfInBounds (o + i * 3 + 2) v2, fun b => G b ∨ F2 b, setCell_own v2 own2, by simpa using i3, ⟨gf i G' F2, fun j hj => ?_, fun j k b hj hk gj gk => ?_, fun b => ?_⟩, fun j hj hij => ?_, fun b hb => ?_⟩, ?_, hB, hSB, fun b hb => ?_⟩
  · rw [hln1] at hj
    have hget : (xs.take (i + 1))[j]'(by rw [hln1]; exact hj) = xs[j]'(by omega) := List.getElem_take
    rw [hget]
    by_cases hji : j < i
    · have h0 := i4 j (by rw [hln]; exact hji)
      have hg0 : (xs.take i)[j]'(by rw [hln]; exact hji) = xs[j]'(by omega) := List.getElem_take
      rw [hg0] at h0
      rw [gf_lt hji, sg j (by omega)]
      exact rep_frame (fun _ h => h) fS (fun b hb => by
        have := i6 b ((i4c b).2 ⟨j, by rw [hln]; exact hji, hb⟩)
        exact same b this.2.1 this.2.2) h0
    · obtain rfl : j = i := by omega
      rw [gf_ge hji]
      obtain ⟨nv, e1, _⟩ := hk_cells (i5 j hlt (Nat.le_refl _))
      have hsz : o + j * 3 + 2 < arr.size := by
        have : (j + 1) * 3 ≤ c * 3 := Nat.mul_le_mul_right _ (by omega)
        omega
      have e3 : seg (arr.setIfInBounds (o + j * 3 + 2) v2) (o + j * 3) 3 = [.int .i64 xs[j].1, .int .i64 xs[j].2.1, v2] := by
        apply List.ext_getElem?
        intro k
        have e0 : ∀ k : Nat, (seg arr (o + j * 3) 3)[k]? = ([Value.int .i64 xs[j].1, .int .i64 xs[j].2.1, nv] : List Value)[k]? := fun k => by rw [e1]
        rw [seg_get]
        match k with
        | 0 =>
          have := e0 0
          rw [seg_get] at this
          rw [if_pos (by omega), Array.getElem?_setIfInBounds_ne (by omega)]
          simpa using this
        | 1 =>
          have := e0 1
          rw [seg_get] at this
          rw [if_pos (by omega), Array.getElem?_setIfInBounds_ne (by omega)]
          simpa using this
        | 2 => rw [if_pos (by omega), Array.getElem?_setIfInBounds_self_of_lt hsz]; rfl
        | k + 3 => rw [if_neg (by omega)]; rfl
      rw [e3]
      have hv2 : rep (w2.setCell ⟨B, o + j * 3 + 2, none⟩ v2) S (.list .str) 8 xs[j].2.2 [v2] F2 := by
        refine rep_dd (d := 8) (d' := 7) (S := fun _ => False) ?_
        have hq : rep w2 (fun _ => False) (.list .str) 9 xs[j].2.2 [v2] F2 := rep_dd (d := 8) (d' := 8) hr2
        exact rep_frame (fun _ h => h) (fun _ h => h.elim) (fun b hb => setCell_other (by have := hF2 b hb; show b ≠ B; omega)) hq
      exact ⟨fun _ => False, F2, ⟨rfl, fun _ h => h⟩, ⟨fun _ => False, F2, ⟨rfl, fun _ h => h⟩, hv2, fun _ h => h.elim, fun b => ⟨.inr, fun h => h.elim (fun h => h.elim) id⟩⟩, fun _ h => h.elim, fun b => ⟨.inr, fun h => h.elim (fun h => h.elim) id⟩⟩
  · rw [hln1] at hj hk
    have low : ∀ j, j < i → ∀ b, G' j b → b < wr.heap.size := fun j hj b hb => (i6 b ((i4c b).2 ⟨j, by rw [hln]; exact hj, hb⟩)).2.1
    by_cases hji : j < i
    · rw [gf_lt hji] at gj
      by_cases hki : k < i
      · rw [gf_lt hki] at gk
        exact i4b j k b (by rw [hln]; exact hji) (by rw [hln]; exact hki) gj gk
      · rw [gf_ge hki] at gk
        have := low j hji b gj; have := hF2 b gk; omega
    · rw [gf_ge hji] at gj
      by_cases hki : k < i
      · rw [gf_lt hki] at gk
        have := low k hki b gk; have := hF2 b gj; omega
      · omega
  · constructor
    · rintro (h | h)
      · obtain ⟨j, hj, hb⟩ := (i4c b).1 h
        rw [hln] at hj
        exact ⟨j, by rw [hln1]; omega, by rw [gf_lt hj]; exact hb⟩
      · exact ⟨i, by rw [hln1]; omega, by rw [gf_ge (Nat.lt_irrefl _)]; exact h⟩
    · rintro ⟨j, hj, hb⟩
      by_cases hji : j < i
      · rw [gf_lt hji] at hb; exact .inl ((i4c b).2 ⟨j, by rw [hln]; exact hji, hb⟩)
      · rw [gf_ge hji] at hb; exact .inr hb
  · rw [sg j (by omega)]
    exact rep_frame (fun _ h => h) fS (fun _ h => h.elim) (i5 j hj (by omega))
  · rw [setCell_size]
    rcases hb with hb | hb
    · have := i6 b hb; exact ⟨this.1, by omega, this.2.2⟩
    · have := hF2 b hb; exact ⟨by omega, this.2, by omega⟩
  · exact below_set (bel.trans (below_up ((ha.trans (below_up h2 (by omega)))) (by omega))) hB
  · rw [setCell_size]; have := hS b hb; omega
set_option maxRecDepth 100000 in
set_option maxHeartbeats 2000000 in
/-- each of a list's hunks copied -/
theorem copied_walk {w : World} {S : Fp} {xs : List HkT.den} {v : Value} (hr : rep w S (.list HkT) 0 xs [v] (fun _ => False)) (hS : ∀ b, S b → b < w.heap.size) (hl : xs.length ≤ room 40) (hx : ∀ x ∈ xs, x.2.2.length ≤ room 16) (hgl : Gl Try.prog w S) :
    Calls Try.prog 168 #[v] w fun e' w' => ∃ v' F, e' = .returned v' ∧ Below w.heap.size w w' ∧ rep w' S (.list HkT) 9 xs [v'] F ∧ (∀ b, F b → w.heap.size ≤ b ∧ b < w'.heap.size) := by
  have c209 := clone_calls slices_Clone_Limpl_Hunk_impl_Hunk.meets.2 hr hS hl hgl
  go_enter Try.func168, Try.ntmps168
  go_wp2_with (go_at_call 209; go_must (refine c209.mono ?_; rintro e1 w1 ⟨v1, F1, S1, rfl, hb1, hr1, hs1, hs2, hf1⟩))
  rcases hr1 with ⟨⟨A, hA⟩, hx0, hF0⟩ | ⟨B, o, c, arr, G, hv, h1, h2, h3, h4⟩
  · obtain rfl : v1 = .slice A 0 0 := by simpa using hA
    subst hx0
    go_wp2
    go_loopg [10] 0 (fun k s10 wr => s10 = .int .i64 0 ∧ wr = w1)
    case atStart => exact ⟨rfl, rfl⟩
    case round =>
      obtain ⟨rfl, rfl⟩ := hrel
      go_wp2
      go_ret
      exact ⟨_, fun _ => False, rfl, hb1, .inl ⟨⟨A, rfl⟩, rfl, fun _ h => h⟩, fun _ h => h.elim⟩
  · obtain rfl : v1 = _ := (List.cons.inj hv).1
    have hn : xs.length ≤ 3518437208883 := hl
    have start : CInv w S1 xs B o c 0 w1 := by
      obtain ⟨h, _⟩ | ⟨_, hO, hG, hF⟩ := h4
      · omega
      obtain ⟨q1, q2, q3⟩ := hf1 B ((hF B).2 (.inl rfl))
      obtain ⟨G', g1, g2, g3⟩ := h3
      exact ⟨⟨arr, fun _ => False, hO, h2, ⟨fun _ _ => False, fun j hj => absurd hj (by simp), fun _ _ _ _ _ h => h.elim, fun b => ⟨fun h => h.elim, fun ⟨_, _, h⟩ => h⟩⟩,
        fun j hj _ => rep_iff (g1 j hj) fun b => ⟨fun h => h.elim, fun h => rep_none (.inl rfl) (g1 j hj) b h⟩, fun _ h => h.elim⟩, hb1, q1, q3, hs2⟩
    clear h2 h3 h4
    go_wp2
    go_loopg [10] xs.length (fun k s10 wr => ∃ i : Nat, s10 = .int .i64 i ∧ xs.length - i ≤ k ∧ CInv w S1 xs B o c i wr)
    case atStart => exact ⟨0, rfl, Nat.le_refl _, start⟩
    case round =>
      obtain ⟨i, rfl, hk, hi⟩ := hrel
      by_cases hlt : i < xs.length
      · obtain ⟨arr', G', i2, i3, i4, i5, i6⟩ := hi.ex
        obtain ⟨nv, e1, e2⟩ := hk_cells (i5 i hlt (Nat.le_refl _))
        have hc0 : wr.cell? ⟨B, o + i * 3, none⟩ = some (.int .i64 xs[i].1) := cell_seg (j := 0) i2.has e1 (by simp)
        have hc1 : wr.cell? ⟨B, o + i * 3 + 1, none⟩ = some (.int .i64 xs[i].2.1) := cell_seg (j := 1) i2.has e1 (by simp)
        have hc2 : wr.cell? ⟨B, o + i * 3 + 2, none⟩ = some nv := cell_seg (j := 2) i2.has e1 (by simp)
        obtain ⟨na, nl, nc, rfl⟩ := rep_slice e2
        generalize hW : (wr.alloc (Obj.cells #[.int .i64 xs[i].1, .int .i64 xs[i].2.1, .slice na nl nc] 121)) = wa
        have hba : Below wr.heap.size wr wa := by subst hW; exact (Below.refl _ wr).alloc (Nat.le_refl _) _
        have hk2 : wa.cell? ⟨wr.heap.size, 2, none⟩ = some (.slice na nl nc) := by subst hW; exact alloc_cell _ _ _ rfl
        have hsa := hba.size
        have c120 := clone_calls slices_Clone_Lstring_string.meets.2 (w := wa) (S := S1) (xs := xs[i].2.2) (v := .slice na nl nc) (rep_frame (fun _ h => h) (fun b hb => hba.block b (hi.hS b hb)) (fun _ h => h.elim) e2) (fun b hb => Nat.lt_of_lt_of_le (hi.hS b hb) hsa) (hx _ (List.getElem_mem hlt)) (gl_mono _ _ _ _ hgl hs1 fun b hb => (hba.block b (Nat.lt_of_lt_of_le (hS b hb) hi.bel.size)).trans (hi.bel.block b (hS b hb)))
        have own2 : ∀ w2, Below wa.heap.size wa w2 → Own w2 B arr' := fun w2 h2 => i2.of_eq ((h2.block B (Nat.lt_of_lt_of_le i2.has.lt hsa)).trans (hba.block B i2.has.lt))
        have hps : o + i * 3 + 2 < arr'.size := by
          have : (i + 1) * 3 ≤ c * 3 := Nat.mul_le_mul_right _ (by omega)
          omega
        go_wp2_with (go_at_call 120; go_must (refine c120.mono ?_; rintro e3 w2 ⟨v2, F2, S2, rfl, hb2, hr2, ht1, ht2, hf2⟩; obtain ⟨ma, ml, mc, rfl⟩ := rep_slice hr2; have hk3 : w2.cell? ⟨B, o + i * 3 + 2, none⟩ = some (.slice na nl nc) := cell_seg (j := 2) (own2 w2 hb2).has e1 (by simp); have hk4 : w2.frozen? ⟨B, o + i * 3 + 2, none⟩ = false := (own2 w2 hb2).frozen hps))
        go_roundg (xs.length - (i + 1))
        case measure => omega
        case rel => exact ⟨i + 1, by simp, Nat.le_refl _, cinv_step hi hlt h1 hba hb2 hr2 fun b hb => ⟨(hf2 b hb).1, (hf2 b hb).2.1⟩⟩
      · obtain ⟨arr', G', i2, i3, i4, i5, i6⟩ := hi.ex
        rw [List.take_of_length_le (Nat.le_of_not_lt hlt)] at i4
        have bel := hi.bel
        have hBw := hi.hB
        have hBl := i2.has.lt
        clear hi
        go_wp2
        go_ret
        exact ⟨_, fun b => b = B ∨ G' b, rfl, bel, .inr ⟨B, o, c, arr', G', rfl, h1, i3, reps_imp i4 fun x cs F _ _ h => hk_up h, .inr ⟨Nat.succ_pos _, i2, fun h => (i6 B h).2.2 rfl, fun b => Iff.rfl⟩⟩, fun b hb => hb.elim (fun e => by subst e; exact ⟨hBw, hBl⟩) fun h => ⟨(i6 b h).1, (i6 b h).2.1⟩⟩
theorem went_fresh {w w' : World} {S Fa F : Fp} (hb : Below w.heap.size w w') (hf : ∀ b, F b → w.heap.size ≤ b ∧ b < w'.heap.size) (hF : ∀ b, ¬ Fa b) (hS : ∀ b, S b → b < w.heap.size) : Went w w' S (fun _ => False) Fa S F (fun _ => False) :=
  { hw := fun b h _ => hb.block b h
    hsz := hb.size
    hsame := ⟨hb.os, hb.tape, hb.output⟩
    h1 := fun b h => h.elim (fun h => h) fun h => h.elim
    h2 := fun b h => .inl h
    h3 := fun b h => Nat.lt_of_lt_of_le (hS b h) hb.size
    h4 := fun b h => h.elim (fun h => ⟨.inr (hf b h).1, fun hs => absurd (hS b hs) (by have := (hf b h).1; omega), (hf b h).2⟩) fun h => h.elim
    h5 := fun b _ h => h }
def copiedOk (xs : List (Int × Int × (List ByteArray))) : Bool := decide (xs.length ≤ room 40) && xs.all fun x => decide (x.2.2.length ≤ room 16)
/-- hunks in new memory -/
def impl_copiedHunks.f (xs : List (Int × Int × (List ByteArray))) : Option (List (Int × Int × (List ByteArray))) := bif copiedOk xs then some xs else none
def impl_copiedHunks.S : Abs.Sum := ⟨.cons (.val (.list (.pair (.int .i64) (.pair (.int .i64) (.one (.list .str)))))) .nil, [(9, .list (.pair (.int .i64) (.pair (.int .i64) (.one (.list .str)))))], fun _ x => impl_copiedHunks.f x⟩
theorem impl_copiedHunks.keeps : Keeps Try.prog 168 impl_copiedHunks.S := by
  intro n w args x y S Fa hy ha hdis hS hFa hgl
  simp only [impl_copiedHunks.S, impl_copiedHunks.f] at hy
  cases hr : copiedOk x with
  | false => rw [hr] at hy; cases hy
  | true =>
    rw [hr] at hy
    simp only [cond_true] at hy
    cases hy
    simp only [copiedOk, Bool.and_eq_true, decide_eq_true_eq] at hr
    simp only [impl_copiedHunks.S, ArgL, Arg] at ha
    obtain ⟨u, us', F1, F2, rfl, ⟨⟨cs, h1, rfl⟩, h2⟩, ⟨rfl, h4⟩, h5, h6⟩ := ha
    have hF : ∀ b, ¬ Fa b := fun b hb => ((h6 b).1 hb).elim (h2 b) (h4 b)
    obtain ⟨v, rfl⟩ : ∃ v, cs = [v] := List.length_eq_one_iff.1 (rep_len h1)
    refine Calls.mono (copied_walk (xs := x) (v := v) h1 hS hr.1 (fun z hz => of_decide_eq_true (List.all_eq_true.1 hr.2 z hz)) hgl) ?_
    rintro e w' ⟨v', F, rfl, hb, hv, hf⟩
    refine ⟨[v'], S, F, fun _ => False, rfl, went_fresh hb hf hF hS, ?_, ?_⟩
    · show ResL w' S [(9, .list HkT)] (DL.left (b := []) x) [v'] F
      simp only [ResL]
      exact ⟨[v'], [], F, fun _ => False, rfl, hv, ⟨rfl, fun _ h => h⟩, fun _ _ h => h, fun b => ⟨.inl, fun h => h.elim (fun h => h) fun h => h.elim⟩⟩
    · show ArgL w' S (Par.cons .skip .nil) () [(Ty.list HkT).wrap [v]] (fun _ => False)
      simp only [ArgL, Arg]
      exact ⟨_, [], fun _ => False, fun _ => False, rfl, fun _ h => h, ⟨rfl, fun _ h => h⟩, fun _ _ h => h, fun b => ⟨.inl, fun h => h.elim (fun h => h) fun h => h⟩⟩
theorem impl_copiedHunks.meets : Meets Try.prog 168 impl_copiedHunks.S :=
  ⟨⟨_, Try.f168.body.getD .skip, (by kernel_rfl : Try.prog.funcs[168]? = some Try.f168), by kernel_rfl, by kernel_rfl⟩, impl_copiedHunks.keeps⟩
end
end Go.Abs.G
