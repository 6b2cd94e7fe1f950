/- How the arguments of a law read: kind by kind, what a datum in memory is as a Lean value, and how large it may be. -/
import Derived.Test.YtafohchkacclpaaWMore
import Derived.ProofKit
import Derived.Deep.Slices
import Derived.SizedLaws
set_option linter.unusedVariables false
set_option linter.unusedSimpArgs false
namespace Go.Proofs.Ytafohchkacclpaa.Open
open Go.RowKit Go.Proofs.YtafohchkacclpaaW.PrintWords Go.ChangeShapes Go.WideShapes

/-- Whatever reads as a datum of type t is a value of the kind d, within its bounds G. -/
def Opens {α : Type} (d : Kd α) (G : α → Prop) (P : Program) (t : TypeId) : Prop :=
  ∀ (H : Type) (enc : TypeId × Value → H) (W : World) (base : Nat) (spare : Nat → Bool) (held : Bool) (fuel : Nat) (cs : List Value) (x : DataW H × List MemPlace),
    DataW.trod enc P W base spare held fuel t cs = some x → (∀ n ∈ x.1.weights P t, n ≤ reachBytes) → ∃ a : α, d.K W a cs ∧ G a

/-- The same of fields in line, from place o on. -/
def OpensF {α : Type} (d : Kd α) (G : α → Prop) (P : Program) (fs : List Field) (o : Nat) : Prop :=
  ∀ (H : Type) (enc : TypeId × Value → H) (W : World) (base : Nat) (spare : Nat → Bool) (held : Bool) (fuel : Nat) (cs : List Value) (xs : List (DataW H × List MemPlace)),
    cs.length = o + d.sz → fs.mapM (fun f => DataW.trod enc P W base spare held fuel f.type ((cs.drop f.offset).take (P.cellsOf f.type))) = some xs →
    (∀ n ∈ DataW.weightsEach P (fs.map (·.type)) (xs.map (·.1)), n ≤ reachBytes) → ∃ a : α, d.K W a (cs.drop o) ∧ G a

section
variable {P : Program}

theorem opens_int {t : TypeId} {k : IntKind} (ht : P.underlying t = some (.int k)) : Opens (Kd.int k) (fun n => (Lit.int k n).wf = true) P t := by
  intro H enc W base spare held fuel cs x h hw
  cases fuel with
  | zero => simp [DataW.trod] at h
  | succ fuel =>
    unfold DataW.trod at h
    rw [ht] at h
    split at h <;> simp_all
    obtain ⟨⟨rfl, h1⟩, rfl⟩ := h
    exact ⟨_, rfl, h1⟩

theorem opens_bool {t : TypeId} (ht : P.underlying t = some .bool) : Opens Kd.bool (fun _ => True) P t := by
  intro H enc W base spare held fuel cs x h hw
  cases fuel with
  | zero => simp [DataW.trod] at h
  | succ fuel =>
    unfold DataW.trod at h
    rw [ht] at h
    split at h
    all_goals first | exact ⟨_, rfl, trivial⟩ | simp_all

theorem opens_string {t : TypeId} (ht : P.underlying t = some .string) : Opens Kd.string (fun s => s.size ≤ 140737488351232) P t := by
  intro H enc W base spare held fuel cs x h hw
  cases fuel with
  | zero => simp [DataW.trod] at h
  | succ fuel =>
    unfold DataW.trod at h
    rw [ht] at h
    split at h <;> simp_all
    obtain ⟨h1, rfl⟩ := h
    refine ⟨_, rfl, ?_⟩
    have z := hw
    simp [DataW.weights] at z
    exact z

theorem weightsAll_mem {H : Type} {e : TypeId} : ∀ {l : List (DataW H)} {y : DataW H}, y ∈ l → ∀ n ∈ y.weights P e, n ∈ DataW.weightsAll P e l
  | d :: r, y, hy, n, hn => by
    unfold DataW.weightsAll
    rcases List.mem_cons.1 hy with rfl | hy
    · exact List.mem_append_left _ hn
    · exact List.mem_append_right _ (weightsAll_mem hy n hn)

theorem choose_list {α : Type} {p : Nat → α → Prop} : ∀ n, (∀ i, i < n → ∃ x, p i x) → ∃ l : List α, l.length = n ∧ ∀ i x, l[i]? = some x → p i x
  | 0, _ => ⟨[], rfl, fun i x h => by simp at h⟩
  | n + 1, h => by
    obtain ⟨l, hl, hp⟩ := choose_list n (fun i hi => h i (by omega))
    obtain ⟨x, hx⟩ := h n (by omega)
    refine ⟨l ++ [x], by simp [hl], fun i y hy => ?_⟩
    by_cases hi : i < l.length
    · rw [List.getElem?_append_left hi] at hy
      exact hp i y hy
    · rw [List.getElem?_append_right (by omega)] at hy
      have : i = n := by
        have := (List.getElem?_eq_some_iff.1 hy).1
        simp at this; omega
      subst this
      simp [hl] at hy
      exact hy ▸ hx

theorem opens_slice {α : Type} {d : Kd α} {G : α → Prop} {t e : TypeId} {B : Nat} (ht : P.underlying t = some (.slice e)) (hc : P.cellsOf e = d.sz) (hB : P.bytesOf e = B) (hd : Opens d G P e) :
    Opens (Kd.slice e d) (fun l => l.length * B ≤ 140737488351232 ∧ ∀ a ∈ l, G a) P t := by
  intro H enc W base spare held fuel cs x h hw
  rcases Go.Deep.open_slice ht h with ⟨rfl, rfl⟩ | ⟨a, len, cap, m, n, D, Pl, rfl, hb, hl, hm, hmm, rfl, hx⟩
  · exact ⟨[], ⟨none, 0, rfl, Nat.le_refl _, rfl, by simp, fun h => absurd h (by simp)⟩, by simp, fun a ha => absurd ha (by simp)⟩
  · have hlm : len ≤ m := by rw [hmm]; split <;> omega
    have hmc : m ≤ cap := by rw [hmm]; split <;> omega
    have hel : ∀ i, i < len → ∃ a' : α, (∃ c, W.cells? base (a.add (i * P.cellsOf e)) (P.cellsOf e) = some c ∧ d.K W a' c) ∧ G a' := by
      intro i hi
      obtain ⟨c, h1, h2⟩ := hx i (by omega)
      obtain ⟨a', hk, hg⟩ := hd H enc W base spare held n c _ h2 (fun q hq => hw q (by
        simp only [DataW.weights, ht]
        refine List.mem_cons_of_mem _ (List.mem_append_left _ ?_)
        exact weightsAll_mem (y := D i) (List.mem_map.2 ⟨i, List.mem_range.2 hi, rfl⟩) q hq))
      exact ⟨a', ⟨c, h1, hk⟩, hg⟩
    obtain ⟨l, hlen, hF⟩ := choose_list _ hel
    refine ⟨l, ⟨some a, cap, by rw [hlen], by rw [hlen]; exact hl, ?_⟩, ?_, ?_⟩
    · refine ⟨rfl, by rw [hlen]; simp only [maxLen] at hm; omega, fun _ => ⟨a, rfl, ?_⟩⟩
      intro j p hj
      obtain ⟨⟨c, h1, h2⟩, _⟩ := hF j p hj
      rw [hc] at h1
      obtain ⟨_, hcl, hcell⟩ := World.cells?_some h1
      refine ⟨c, hcl, h2, fun i u hu => ?_⟩
      have hi : i < c.length := (List.getElem?_eq_some_iff.1 hu).1
      have := hcell i (by omega)
      rw [hu] at this
      rw [← Go.Deep.add_add]
      exact this
    · rw [hlen]
      have := hw ((((List.range len).map D).length + ((List.range (m - len)).map fun j => D (len + j)).length) * P.bytesOf e) (by simp [DataW.weights, ht])
      rw [hB] at this
      simp only [List.length_map, List.length_range] at this
      refine Nat.le_trans (Nat.mul_le_mul_right _ (by omega : len ≤ len + (m - len))) ?_
      simpa [reachBytes] using this
    · intro y hy
      obtain ⟨i, hi, rfl⟩ := List.mem_iff_getElem.1 hy
      exact (hF i _ (List.getElem?_eq_getElem hi)).2

theorem opensF_one {α : Type} {d : Kd α} {G : α → Prop} {f : Field} {o : Nat} (ho : f.offset = o) (hc : P.cellsOf f.type = d.sz) (hd : Opens d G P f.type) : OpensF d G P [f] o := by
  intro H enc W base spare held fuel cs xs hl h hw
  simp only [List.mapM_cons, List.mapM_nil, Option.pure_def, Option.bind_eq_bind, Option.bind_eq_some_iff, Option.some.injEq] at h
  obtain ⟨x, hx, _, rfl, rfl⟩ := h
  rw [ho, hc, List.take_of_length_le (by simp; omega)] at hx
  exact hd H enc W base spare held fuel _ x hx (fun n hn => hw n (by simp [DataW.weightsEach, hn]))

theorem opensF_cons {α β : Type} {d : Kd α} {db : Kd β} {G : α → Prop} {Gb : β → Prop} {f : Field} {fs : List Field} {o : Nat} (ho : f.offset = o) (hc : P.cellsOf f.type = d.sz) (hd : Opens d G P f.type)
    (hr : OpensF db Gb P fs (o + d.sz)) : OpensF (Kd.pair d db) (fun x => G x.1 ∧ Gb x.2) P (f :: fs) o := by
  intro H enc W base spare held fuel cs xs hl h hw
  simp only [List.mapM_cons, Option.pure_def, Option.bind_eq_bind, Option.bind_eq_some_iff, Option.some.injEq] at h
  obtain ⟨x, hx, ys, hys, rfl⟩ := h
  rw [ho, hc] at hx
  obtain ⟨a, ka, ga⟩ := hd H enc W base spare held fuel _ x hx (fun n hn => hw n (by simp [DataW.weightsEach, hn]))
  have hl' : cs.length = o + d.sz + db.sz := by
    have : (Kd.pair d db).sz = d.sz + db.sz := rfl
    omega
  obtain ⟨b, kb, gb⟩ := hr H enc W base spare held fuel cs ys hl' hys (fun n hn => hw n (by
    simp only [List.map_cons, DataW.weightsEach]
    exact List.mem_append_right _ hn))
  refine ⟨(a, b), ⟨(cs.drop o).take d.sz, cs.drop (o + d.sz), ?_, ka, kb⟩, ga, gb⟩
  rw [← List.drop_drop, List.take_append_drop]

theorem opens_struct {α β : Type} {d : Kd α} {G : α → Prop} {t : TypeId} {fs : Array Field} (f : β → α) (g : α → β) (hfg : ∀ a, f (g a) = a) (ht : P.underlying t = some (.struct fs)) (hc : P.cellsOf t = d.sz) (hd : OpensF d G P fs.toList 0) :
    Opens (Kd.iso d f) (fun x => G (f x)) P t := by
  intro H enc W base spare held fuel cs x h hw
  obtain ⟨n, xs, hm, rfl, hl⟩ : ∃ n xs, fs.toList.mapM (fun f => DataW.trod enc P W base spare held n f.type ((cs.drop f.offset).take (P.cellsOf f.type))) = some xs ∧ x = (.agg (xs.map (·.1)), xs.flatMap (·.2)) ∧ cs.length = P.cellsOf t := by
    cases fuel with
    | zero => simp [DataW.trod] at h
    | succ n =>
      unfold DataW.trod at h
      rw [ht] at h
      split at h <;> simp_all
      obtain ⟨hl, xs, hp, hd⟩ := h
      exact ⟨n, xs, hp, hd.symm⟩
  obtain ⟨a, ka, ga⟩ := hd H enc W base spare held n cs xs (by omega) hm (fun q hq => hw q (by simpa [DataW.weights, ht] using hq))
  refine ⟨g a, ?_, ?_⟩
  · show d.K W (f (g a)) cs
    rw [hfg]
    simpa using ka
  · show G (f (g a))
    rw [hfg]
    exact ga
end
theorem slice_cells {a A : Option Addr} {len cap n c : Nat} (h : (Value.slice a len cap).cells.toList = [.slice A n c]) : a = A ∧ len = n ∧ cap = c := by
  simpa [Value.cells] using h
end Go.Proofs.Ytafohchkacclpaa.Open
