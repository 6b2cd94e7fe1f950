import Derived.Test.YtmjnjcggigfciaaGreatDoorE3
import Derived.ProofKit
import Derived.Deep.Slices
import Derived.SizedLaws
set_option linter.unusedVariables false
set_option linter.unusedSimpArgs false
/-! ### How the arguments of a law read -/
namespace Go.Abs
open Go Go.RowKit

/-- how large they may be -/
def Bd : (τ : Ty) → τ.den → Prop
  | .int k, n => (Lit.int k n).wf = true
  | .bool, _ => True
  | .str, s => ByteArray.size s ≤ 140737488351232
  | .list e, xs => List.length xs ≤ 140737488351232 ∧ ∀ a, a ∈ (xs : List e.den) → Bd e a
  | .one f, x => Bd f x
  | .pair f r, x => Bd f x.1 ∧ Bd r x.2

/-- Whatever reads as a datum of type t is a value of the kind τ. -/
def Opens (P : Program) (t : TypeId) (τ : Ty) : Prop :=
  ∀ (H : Type) (enc : TypeId × Value → H) (W : World) (base : Nat) (held : Bool) (fuel : Nat) (cs : List Value) (x : DataW H × List MemPlace),
    DataW.trod enc P W base (fun _ => true) held fuel t cs = some x → (∀ n ∈ x.1.weights P t, n ≤ reachBytes) → ∃ a : τ.den, rep W (fun b => b < W.heap.size) τ 0 a cs (fun _ => False) ∧ Bd τ a

/-- The same of fields in line, from place o on. -/
def OpensF (P : Program) (fs : List Field) (o : Nat) (τ : Ty) : Prop :=
  ∀ (H : Type) (enc : TypeId × Value → H) (W : World) (base : Nat) (held : Bool) (fuel : Nat) (cs : List Value) (xs : List (DataW H × List MemPlace)),
    cs.length = o + τ.size → fs.mapM (fun f => DataW.trod enc P W base (fun _ => true) held fuel f.type ((cs.drop f.offset).take (P.cellsOf f.type))) = some xs →
    (∀ n ∈ DataW.weightsEach P (fs.map (·.type)) (xs.map (·.1)), n ≤ reachBytes) → ∃ a : τ.den, rep W (fun b => b < W.heap.size) τ 0 a (cs.drop o) (fun _ => False) ∧ Bd τ a

section
variable {P : Program}

theorem opens_int {t : TypeId} {k : IntKind} (ht : P.underlying t = some (.int k)) : Opens P t (.int k) := by
  intro H enc W base held fuel cs x h hw
  cases fuel with
  | zero => simp [DataW.trod] at h
  | succ fuel =>
    unfold DataW.trod at h
    rw [ht] at h
    split at h <;> simp_all
    rename_i heq
    obtain ⟨⟨_, h1⟩, rfl⟩ := h
    cases heq
    exact ⟨_, ⟨rfl, fun _ h => h⟩, h1⟩

theorem opens_bool {t : TypeId} (ht : P.underlying t = some .bool) : Opens P t .bool := by
  intro H enc W base held fuel cs x h hw
  cases fuel with
  | zero => simp [DataW.trod] at h
  | succ fuel =>
    unfold DataW.trod at h
    rw [ht] at h
    split at h
    all_goals first | exact ⟨_, ⟨rfl, fun _ h => h⟩, trivial⟩ | simp_all

theorem opens_str {t : TypeId} (ht : P.underlying t = some .string) : Opens P t .str := by
  intro H enc W base held fuel cs x h hw
  cases fuel with
  | zero => simp [DataW.trod] at h
  | succ fuel =>
    unfold DataW.trod at h
    rw [ht] at h
    split at h <;> simp_all
    obtain ⟨h1, rfl⟩ := h
    refine ⟨_, ⟨rfl, fun _ h => h⟩, ?_⟩
    have z := hw
    simp [DataW.weights] at z
    exact z

theorem weightsAll_mem {H : Type} {e : TypeId} : ∀ {l : List (DataW H)} {y : DataW H}, y ∈ l → ∀ n ∈ y.weights P e, n ∈ DataW.weightsAll P e l
  | d :: r, y, hy, n, hn => by
    unfold DataW.weightsAll
    rcases List.mem_cons.1 hy with rfl | hy
    · exact List.mem_append_left _ hn
    · exact List.mem_append_right _ (weightsAll_mem hy n hn)

theorem choose_list {α : Type} {p : Nat → α → Prop} : ∀ n, (∀ i, i < n → ∃ x, p i x) → ∃ l : List α, l.length = n ∧ ∀ i x, l[i]? = some x → p i x
  | 0, _ => ⟨[], rfl, fun i x h => by simp at h⟩
  | n + 1, h => by
    obtain ⟨l, hl, hp⟩ := choose_list n (fun i hi => h i (by omega))
    obtain ⟨x, hx⟩ := h n (by omega)
    refine ⟨l ++ [x], by simp [hl], fun i y hy => ?_⟩
    by_cases hi : i < l.length
    · rw [List.getElem?_append_left hi] at hy
      exact hp i y hy
    · rw [List.getElem?_append_right (by omega)] at hy
      have : i = n := by
        have := (List.getElem?_eq_some_iff.1 hy).1
        simp at this; omega
      subst this
      simp [hl] at hy
      exact hy ▸ hx

theorem opens_list {t e : TypeId} {τ : Ty} (ht : P.underlying t = some (.slice e)) (hc : P.cellsOf e = τ.size) (hB : 1 ≤ P.bytesOf e) (hd : Opens P e τ) : Opens P t (.list τ) := by
  intro H enc W base held fuel cs x h hw
  rcases Go.Deep.open_slice ht h with ⟨rfl, rfl⟩ | ⟨a, len, cap, m, n, D, Pl, rfl, hb, hl, hm, hmm, rfl, hx⟩
  · exact ⟨[], .inl ⟨⟨none, rfl⟩, rfl, fun _ h => h⟩, by simp, fun a ha => absurd ha (by simp)⟩
  · simp only [if_true] at hmm
    subst hmm
    by_cases h0 : m = 0
    · subst h0
      obtain rfl : len = 0 := by omega
      exact ⟨[], .inl ⟨⟨some a, rfl⟩, rfl, fun _ h => h⟩, by simp, fun a ha => absurd ha (by simp)⟩
    · have hpos := τ.size_pos
      -- the cells of one element
      have row : ∀ i, i < m → ∃ c, W.cells? base (a.add (i * τ.size)) τ.size = some c ∧ c.length = τ.size ∧ (∀ j, j < τ.size → W.cell? (a.add (i * τ.size + j)) = c[j]?) ∧ DataW.trod enc P W base (fun _ => true) held n e c = some (D i, Pl i) := by
        intro i hi
        obtain ⟨c, h1, h2⟩ := hx i hi
        rw [hc] at h1
        obtain ⟨_, h3, h4⟩ := World.cells?_some h1
        exact ⟨c, h1, h3, fun j hj => by rw [← Go.Deep.add_add]; exact h4 j hj, h2⟩
      obtain ⟨c0, _, hl0, hg0, _⟩ := row 0 (by omega)
      have hs0 : W.cell? (a.add (0 * τ.size + 0)) = some c0[0] := by rw [hg0 0 hpos]; exact List.getElem?_eq_getElem (by omega)
      have hspot : a.spot = none := by
        have := World.cell?_spot hs0
        rw [Nat.zero_mul, Nat.add_zero] at this
        simpa [Addr.add] using this
      obtain ⟨b, o, sp⟩ := a
      simp only at hspot
      subst hspot
      obtain ⟨arr, e', fr, hh⟩ : ∃ arr e' fr, W.heap[b]? = some (.cells arr e' fr) := by
        rw [add0] at hs0
        unfold World.cell? at hs0
        split at hs0
        · rename_i c _ _ h1; exact ⟨_, _, _, h1⟩
        · cases hs0
      have hHas : Has W b arr := ⟨_, _, hh⟩
      have get : ∀ i, i < m → ∃ c, c.length = τ.size ∧ (∀ j, j < τ.size → arr[o + (i * τ.size + j)]? = c[j]?) ∧ DataW.trod enc P W base (fun _ => true) held n e c = some (D i, Pl i) := by
        intro i hi
        obtain ⟨c, _, h2, h3, h4⟩ := row i hi
        exact ⟨c, h2, fun j hj => by rw [← h3 j hj, add0, hHas.cell], h4⟩
      have hend : o + m * τ.size ≤ arr.size := by
        obtain ⟨c, h2, h3, _⟩ := get (m - 1) (by omega)
        have h4 := h3 (τ.size - 1) (by omega)
        rw [List.getElem?_eq_getElem (by omega)] at h4
        have h5 := (Array.getElem?_eq_some_iff.1 h4).1
        have : (m - 1) * τ.size + τ.size = m * τ.size := by rw [← Nat.succ_mul]; congr 1; omega
        omega
      have hel : ∀ i, i < len → ∃ a' : τ.den, rep W (fun b => b < W.heap.size) τ 0 a' (seg arr (o + i * τ.size) τ.size) (fun _ => False) ∧ Bd τ a' := by
        intro i hi
        obtain ⟨c, h2, h3, h4⟩ := get i (by omega)
        obtain ⟨a', hk, hg⟩ := hd H enc W base held n c _ h4 (fun q hq => hw q (by
          simp only [DataW.weights, ht]
          refine List.mem_cons_of_mem _ (List.mem_append_left _ ?_)
          exact weightsAll_mem (y := D i) (List.mem_map.2 ⟨i, List.mem_range.2 hi, rfl⟩) q hq))
        have hs : seg arr (o + i * τ.size) τ.size = c := by
          apply List.ext_getElem?
          intro j
          rw [seg_get]
          split
          · rename_i hj
            rw [← h3 j hj]; congr 1; omega
          · rename_i hj
            exact (List.getElem?_eq_none (by omega)).symm
        exact ⟨a', by rw [hs]; exact hk, hg⟩
      obtain ⟨l, hlen, hF⟩ := choose_list _ hel
      refine ⟨l, .inr ⟨b, o, m, arr, fun _ => False, by rw [hlen], by rw [hlen]; exact hl, hend, ⟨fun _ _ => False, fun i hi => ?_, fun _ _ _ _ _ h => h.elim, fun b => ⟨fun h => h.elim, fun ⟨_, _, h⟩ => h⟩⟩, .inl ⟨rfl, hHas, hHas.lt, fun _ h => h⟩⟩, ?_, ?_⟩
      · exact (hF i _ (List.getElem?_eq_getElem hi)).1
      · rw [hlen]
        have := hw ((((List.range len).map D).length + ((List.range (m - len)).map fun j => D (len + j)).length) * P.bytesOf e) (by simp [DataW.weights, ht])
        simp only [List.length_map, List.length_range] at this
        refine Nat.le_trans (Nat.le_trans (by omega : len ≤ len + (m - len)) (Nat.le_mul_of_pos_right _ hB)) ?_
        simpa [reachBytes] using this
      · intro y hy
        obtain ⟨i, hi, rfl⟩ := List.mem_iff_getElem.1 hy
        exact (hF i _ (List.getElem?_eq_getElem hi)).2

theorem opensF_one {τ : Ty} {f : Field} {o : Nat} (ho : f.offset = o) (hc : P.cellsOf f.type = τ.size) (hd : Opens P f.type τ) : OpensF P [f] o (.one τ) := by
  intro H enc W base held fuel cs xs hl h hw
  simp only [List.mapM_cons, List.mapM_nil, Option.pure_def, Option.bind_eq_bind, Option.bind_eq_some_iff, Option.some.injEq] at h
  obtain ⟨x, hx, _, rfl, rfl⟩ := h
  have hl' : cs.length = o + τ.size := hl
  rw [ho, hc, List.take_of_length_le (by simp; omega)] at hx
  exact hd H enc W base held fuel _ x hx (fun n hn => hw n (by simp [DataW.weightsEach, hn]))

theorem opensF_pair {τ σ : Ty} {f : Field} {fs : List Field} {o : Nat} (ho : f.offset = o) (hc : P.cellsOf f.type = τ.size) (hd : Opens P f.type τ) (hr : OpensF P fs (o + τ.size) σ) : OpensF P (f :: fs) o (.pair τ σ) := by
  intro H enc W base held fuel cs xs hl h hw
  simp only [List.mapM_cons, Option.pure_def, Option.bind_eq_bind, Option.bind_eq_some_iff, Option.some.injEq] at h
  obtain ⟨x, hx, ys, hys, rfl⟩ := h
  rw [ho, hc] at hx
  obtain ⟨a, ka, ga⟩ := hd H enc W base held fuel _ x hx (fun n hn => hw n (by simp [DataW.weightsEach, hn]))
  have hl' : cs.length = o + τ.size + σ.size := by
    have : (Ty.pair τ σ).size = τ.size + σ.size := rfl
    omega
  obtain ⟨b, kb, gb⟩ := hr H enc W base held fuel cs ys hl' hys (fun n hn => hw n (by
    simp only [List.map_cons, DataW.weightsEach]
    exact List.mem_append_right _ hn))
  refine ⟨(a, b), ⟨fun _ => False, fun _ => False, ka, ?_, fun _ h => h.elim, fun b => by simp⟩, ga, gb⟩
  rw [List.drop_drop]
  exact kb

theorem opens_struct {τ : Ty} {t : TypeId} {fs : Array Field} (ht : P.underlying t = some (.struct fs)) (hc : P.cellsOf t = τ.size) (hd : OpensF P fs.toList 0 τ) : Opens P t τ := by
  intro H enc W base held fuel cs x h hw
  obtain ⟨n, xs, hm, rfl, hl⟩ : ∃ n xs, fs.toList.mapM (fun f => DataW.trod enc P W base (fun _ => true) held n f.type ((cs.drop f.offset).take (P.cellsOf f.type))) = some xs ∧ x = (.agg (xs.map (·.1)), xs.flatMap (·.2)) ∧ cs.length = P.cellsOf t := by
    cases fuel with
    | zero => simp [DataW.trod] at h
    | succ n =>
      unfold DataW.trod at h
      rw [ht] at h
      split at h <;> simp_all
      obtain ⟨hl, xs, hp, hd⟩ := h
      exact ⟨n, xs, hp, hd.symm⟩
  obtain ⟨a, ka, ga⟩ := hd H enc W base held n cs xs (by omega) hm (fun q hq => hw q (by simpa [DataW.weights, ht] using hq))
  exact ⟨a, by simpa using ka, ga⟩
end
end Go.Abs

namespace Go.Abs
open Go Go.RowKit

theorem argL_nil {w : World} {S : Fp} : ArgL w S .nil () [] (fun _ => False) := by simp [ArgL]
theorem argL_val {w : World} {S : Fp} {τ : Ty} {p : Par} {a : τ.den} {x : DL p.ins} {v : Value} {us : List Value} {cs : List Value} (h : rep w S τ 0 a cs (fun _ => False)) (hv : v = τ.wrap cs) (k : ArgL w S p x us (fun _ => False)) :
    ArgL w S (.cons (.val τ) p) (DL.cons (r := p.ins) a x) (v :: us) (fun _ => False) := by
  simp only [ArgL]
  have e1 : DL.left (a := (Par.val τ).ins) (b := p.ins) (DL.cons a x) = a := by
    show DL.cons (DL.head (DL.cons a x)) (DL.left (a := []) _) = a
    rw [DL.head_cons]; rfl
  have e2 : DL.right (a := (Par.val τ).ins) (b := p.ins) (DL.cons a x) = x := by
    show DL.right (a := []) (DL.tail (DL.cons a x)) = x
    rw [DL.tail_cons]; rfl
  refine ⟨v, us, fun _ => False, fun _ => False, rfl, ?_, ?_, fun _ h => h.elim, fun b => by simp⟩
  · rw [e1]; exact ⟨⟨cs, h, hv⟩, fun _ h => h⟩
  · rw [e2]; exact k

end Go.Abs
namespace Go.Abs
open Go Go.RowKit

/-- A law's call: true comes back, and what was there is as it was. -/
theorem law_true {P : Program} {f : Nat} {p : Par} {run : Nat → DL p.ins → Option (DL (([(0, Ty.bool)] : List (Nat × Ty)).map (·.2) ++ p.outs))} (hm : Meets P f ⟨p, [(0, .bool)], run⟩) {W : World} {args : List Value} {x : DL p.ins}
    {y : DL (([(0, Ty.bool)] : List (Nat × Ty)).map (·.2) ++ p.outs)} (hr : run 0 x = some y) (hy : DL.left (a := [Ty.bool]) (b := p.outs) y = true) (ha : ArgL W (fun b => b < W.heap.size) p x args (fun _ => False)) (hgl : Gl P W (fun b => b < W.heap.size)) :
    Calls P f args.toArray W fun e w' => e = .returned (.bool true) ∧ Below W.heap.size W w' := by
  refine Calls.mono (hm.2 0 W args x y (fun b => b < W.heap.size) (fun _ => False) hr ha (fun _ h => h.elim) (fun _ h => h) (fun _ h => h.elim) hgl) ?_
  rintro e w' ⟨us, S', Fr, Fo, rfl, hw, h1, _⟩
  refine ⟨?_, ⟨hw.hsame.os, hw.hsame.tape, hw.hsame.output, hw.hsz, fun k hk => hw.hw k hk fun h => h⟩⟩
  simp only [ResL] at h1
  obtain ⟨cs, us', F1, F2, rfl, h2, ⟨rfl, _⟩, _⟩ := h1
  have e1 : cs = [.bool (DL.left (a := [Ty.bool]) (b := p.outs) y)] := h2.1
  rw [e1, hy]
  rfl
end Go.Abs
