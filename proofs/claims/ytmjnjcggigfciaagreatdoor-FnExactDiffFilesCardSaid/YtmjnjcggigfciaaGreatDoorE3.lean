import Derived.Test.YtmjnjcggigfciaaGreatDoorE2
import Derived.Laws.Tables
import Derived.Laws.Slices
import Derived.Laws.BytesArg
import Derived.Laws.IdiomStrings
import Derived.Laws.StructEq
import Derived.Shelf.SlicesE.Clone
import Derived.Shelf.Strings.Search3
import Derived.Shelf.Strings.SlTrimAscii
import Derived.Shelf.Strconv.Itoa3
import Derived.Lib.LaidTab
import Derived.Lib.AppendIntMem
import Derived.Lib.LaidU8
import Derived.MakeChecks
import Derived.Laws.Externs
import Derived.Laws.IdiomCopy
import Derived.Lib.AppendZerosOnto
import Derived.Laws.NewBlocks
import Derived.Lib.Overlaps
import Derived.Lib.SliceRun
import Derived.Shelf.RegionOpenPlain
import Derived.WalkKit
import Derived.Lib.Walk
import Derived.Lib.JoinLaws
import Derived.Lib.AppendZeros
import Derived.Laws.MakeOwn
import Derived.Shelf.Spec.SlicesInsert
import Derived.Shelf.SortM.Plain
import Derived.Shelf.SortM.SortNone
import Derived.Shelf.Slices.CompactS
set_option linter.unusedVariables false
set_option linter.unusedSimpArgs false
set_option linter.unnecessarySimpa false
set_option linter.unusedSectionVars false
namespace Go.Abs
open Go

/-! ### What comes back from a call -/

section
variable {C : Ctx} {s : St} {rv : Nat → Value} {F : Nat → Fp} {S G : Fp} {w : World} {P : Program} {E : Env} {a : Act}

structure Item where
  id : Nat
  st : RSt
  top : Fp
  new : RL
  rest : Fp

/-- the roots' own records -/
def Item.own (it : Item) : Nat × RSt := (it.id, it.st)

def ItemOk (w' : World) (S' : Fp) (rt : Nat → RSt) (rv : Nat → Value) (it : Item) : Prop :=
  (∃ r r', rt it.id = .live r ∧ it.st = .live r' ∧ r'.τ = r.τ ∧ r'.d = r.d ∧ r'.ver = bump r ∧ rep w' S' (.list r'.τ) (r'.d + 1) r'.xs [rv it.id] it.top ∧ it.new = [] ∧ ∀ b, ¬ it.rest b) ∨
  (∃ σ c0 d y i b arr, rt it.id = .box σ c0 ∧ it.st = .box σ (unpack1 d σ i y).1 ∧ it.new = (unpack1 d σ i y).2.1 ∧ rv it.id = .pointer (some ⟨b, 0, none⟩) ∧ Own 1 w' b arr ∧ arr.size = σ.size ∧
    rep w' S' σ d y arr.toList it.rest ∧ (∀ b', it.top b' ↔ b' = b) ∧ ¬ it.rest b)

/-- the items' blocks -/
def Item.fp (it : Item) : Fp := fun b => it.top b ∨ it.rest b

structure Items (w' : World) (S' : Fp) (rt : Nat → RSt) (rv : Nat → Value) (K : Nat → Fp) (its : List Item) (bs : List (Nat × List Step)) (i j : Nat) (Fo : Fp) : Prop where
  ok : ∀ it ∈ its, ItemOk w' S' rt rv it
  ids : its.map (·.id) = bs.map (·.1)
  news : Abs.ids (its.flatMap (·.new)) = List.range' i (j - i) ∧ i ≤ j
  top : ∀ it ∈ its, ∀ b, it.top b → Fo b ∨ K it.id b
  rest : ∀ it ∈ its, ∀ b, it.rest b → Fo b
  apart : its.Pairwise fun a c => Disj a.fp c.fp

theorem Items.nil {w' : World} {S' Fo : Fp} {rt : Nat → RSt} {K : Nat → Fp} {i : Nat} : Items w' S' rt rv K [] [] i i Fo :=
  ⟨(fun _ h => nomatch h), rfl, by simp [Abs.ids], (fun _ h => nomatch h), (fun _ h => nomatch h), .nil⟩

/-- what the caller keeps, behind the call -/
structure KeepOk (w w' : World) (S S' : Fp) (K : Nat → Fp) (Fo : Fp) : Prop where
  s : ∀ b, S b → S' b
  sw : ∀ b, S b → w'.heap[b]? = w.heap[b]?
  kw : ∀ i b, K i b → w'.heap[b]? = w.heap[b]?
  dis : ∀ i j b, K i b → K j b → i = j
  ko : ∀ i b, K i b → ¬ Fo b

theorem KeepOk.sub {w w' : World} {S S' : Fp} {K : Nat → Fp} {Fo F1 : Fp} (h : KeepOk w w' S S' K Fo) (k : ∀ b, F1 b → Fo b) : KeepOk w w' S S' K F1 :=
  ⟨h.s, h.sw, h.kw, h.dis, fun i b hb hc => h.ko i b hb (k b hc)⟩

theorem Items.app {w' : World} {S' F1 F2 Fo : Fp} {rt : Nat → RSt} {K : Nat → Fp} {i j k : Nat} {A B : List Item} {b1 b2 : List (Nat × List Step)} (x : Items w' S' rt rv K A b1 i j F1) (y : Items w' S' rt rv K B b2 j k F2)
    (h : Disj F1 F2) (hF : ∀ b, Fo b ↔ F1 b ∨ F2 b) (hd : ∀ i j b, K i b → K j b → i = j) (ho : ∀ i b, K i b → ¬ Fo b) (hn : ((b1 ++ b2).map (·.1)).Nodup) : Items w' S' rt rv K (A ++ B) (b1 ++ b2) i k Fo where
  ok := fun it hi => (List.mem_append.1 hi).elim (x.ok it) (y.ok it)
  ids := by rw [List.map_append, List.map_append, x.ids, y.ids]
  news := by
    refine ⟨?_, Nat.le_trans x.news.2 y.news.2⟩
    have h1 := x.news.1; have h2 := y.news.1
    simp only [Abs.ids, List.flatMap_append, List.map_append] at h1 h2 ⊢
    rw [h1, h2, range_app x.news.2 y.news.2]
  top := fun it hi b hb => (List.mem_append.1 hi).elim (fun hi => (x.top it hi b hb).imp (fun h => (hF b).2 (.inl h)) (fun h => h)) (fun hi => (y.top it hi b hb).imp (fun h => (hF b).2 (.inr h)) (fun h => h))
  rest := fun it hi b hb => (List.mem_append.1 hi).elim (fun hi => (hF b).2 (.inl (x.rest it hi b hb))) (fun hi => (hF b).2 (.inr (y.rest it hi b hb)))
  apart := by
    refine List.pairwise_append.2 ⟨x.apart, y.apart, fun p hp q hq b hb hc => ?_⟩
    have h1 : F1 b ∨ K p.id b := hb.elim (x.top p hp b) (fun hb => .inl (x.rest p hp b hb))
    have h2 : F2 b ∨ K q.id b := hc.elim (y.top q hq b) (fun hc => .inl (y.rest q hq b hc))
    rcases h1 with h1 | h1 <;> rcases h2 with h2 | h2
    · exact h b h1 h2
    · exact ho _ b h2 ((hF b).2 (.inl h1))
    · exact ho _ b h1 ((hF b).2 (.inr h2))
    · rw [List.map_append] at hn
      refine (List.nodup_append.1 hn).2.2 p.id ?_ q.id ?_ (hd _ _ b h1 h2)
      · rw [← x.ids]; exact List.mem_map.2 ⟨p, hp, rfl⟩
      · rw [← y.ids]; exact List.mem_map.2 ⟨q, hq, rfl⟩

mutual
theorem backP_swap {w w' : World} {S S' : Fp} {rt : Nat → RSt} {rv : Nat → Value} {K : Nat → Fp} : ∀ {q : Par} {v v' : Value} {bs : List (Nat × List Step)} {y : DL q.ins} {F : Fp}, q.aggOk = true → BackP w S rt rv K q v bs → Arg w' S' q y v' F →
    v.cells.toList.length = v'.cells.toList.length ∧ (v.cells.toList = v'.cells.toList → BackP w S rt rv K q v' bs)
  | .io d τ, v, v', bs, y, F, ho, hb, ha => by
    have hb' := hb
    simp only [BackP] at hb
    obtain ⟨id, p, r, rfl, h1, ⟨A, n, c, rfl⟩, h3⟩ := hb
    simp only [Arg] at ha
    obtain ⟨A', c', rfl⟩ := root_slice ha
    refine ⟨rfl, fun e => ?_⟩
    simp only [list_cells, List.cons.injEq, and_true] at e
    rw [← e]; exact hb'
  | .box d τ, v, v', bs, y, F, ho, hb, ha => by
    have hb' := hb
    simp only [BackP] at hb
    obtain ⟨id, c, b, rfl, h1, h2, rfl, h4⟩ := hb
    simp only [Arg] at ha
    obtain ⟨b2, arr, F', rfl, _⟩ := ha
    rw [h2] at hb' ⊢
    refine ⟨rfl, fun e => ?_⟩
    have e' : Value.pointer (some ⟨b, 0, none⟩) = .pointer (some ⟨b2, 0, none⟩) := by
      have : ([Value.pointer (some ⟨b, 0, none⟩)] : List Value) = [.pointer (some ⟨b2, 0, none⟩)] := e
      simpa using this
    rw [← e']; exact hb'
  | .agg p, v, v', bs, y, F, ho, hb, ha => by
    simp only [BackP] at hb ⊢
    obtain ⟨us, rfl, h1, h2⟩ := hb
    simp only [Arg] at ha
    obtain ⟨us', rfl, ha⟩ := ha
    have e1 : ∀ l : List Value, (Value.agg l.toArray).cells.toList = l := fun l => by simp [Value.cells]
    rw [e1, e1]
    obtain ⟨k1, k2⟩ := backL_swap h1 h2 ha
    exact ⟨k1, fun e => ⟨us', rfl, h1, k2 e⟩⟩
  | .any k, v, v', bs, y, F, ho, hb, ha => by
    simp only [BackP] at hb ⊢
    simp only [Arg] at ha
    exact ⟨hb.2.trans ha.1.symm, fun _ => ⟨hb.1, ha.1⟩⟩
  | .skip, v, v', bs, y, F, ho, hb, ha => by simp [Par.aggOk] at ho
  | .fn _ _, v, v', bs, y, F, ho, hb, ha => by simp [Par.aggOk] at ho
  | .val _, v, v', bs, y, F, ho, hb, ha | .own _ _, v, v', bs, y, F, ho, hb, ha | .nil, v, v', bs, y, F, ho, hb, ha | .cons _ _, v, v', bs, y, F, ho, hb, ha => by simp [BackP] at hb
theorem backL_swap {w w' : World} {S S' : Fp} {rt : Nat → RSt} {rv : Nat → Value} {K : Nat → Fp} : ∀ {q : Par} {us us' : List Value} {bs : List (Nat × List Step)} {y : DL q.ins} {F : Fp}, q.aggOk = true → BackL w S rt rv K q us bs → ArgL w' S' q y us' F →
    (us.flatMap fun u : Value => u.cells.toList).length = (us'.flatMap fun u : Value => u.cells.toList).length ∧ ((us.flatMap fun u : Value => u.cells.toList) = (us'.flatMap fun u : Value => u.cells.toList) → BackL w S rt rv K q us' bs)
  | .nil, us, us', bs, y, F, ho, hb, ha => by
    simp only [BackL] at hb ⊢
    obtain ⟨rfl, rfl⟩ := hb
    simp only [ArgL] at ha
    obtain ⟨rfl, _⟩ := ha
    exact ⟨rfl, fun _ => ⟨rfl, rfl⟩⟩
  | .cons p q, us, us', bs, y, F, ho, hb, ha => by
    simp only [Par.aggOk, Bool.and_eq_true] at ho
    simp only [BackL] at hb ⊢
    obtain ⟨u, us1, b1, b2, rfl, rfl, h1, h2⟩ := hb
    simp only [ArgL] at ha
    obtain ⟨u', us1', F1, F2, rfl, a1, a2, _, _⟩ := ha
    obtain ⟨k1, k2⟩ := backP_swap ho.1 h1 a1
    obtain ⟨j1, j2⟩ := backL_swap ho.2 h2 a2
    simp only [List.flatMap_cons]
    refine ⟨by rw [List.length_append, List.length_append, k1, j1], fun e => ?_⟩
    obtain ⟨e1, e2⟩ := List.append_inj e k1
    exact ⟨u', us1', b1, b2, rfl, rfl, k2 e1, j2 e2⟩
  | .val _, us, us', bs, y, F, ho, hb, ha | .own _ _, us, us', bs, y, F, ho, hb, ha | .io _ _, us, us', bs, y, F, ho, hb, ha | .box _ _, us, us', bs, y, F, ho, hb, ha | .agg _, us, us', bs, y, F, ho, hb, ha
  | .fn _ _, us, us', bs, y, F, ho, hb, ha | .any _, us, us', bs, y, F, ho, hb, ha | .skip, us, us', bs, y, F, ho, hb, ha => by simp [BackL] at hb
end

mutual
theorem backP_items {w' : World} {S' : Fp} {K : Nat → Fp} : ∀ (q : Par) (i : Nat) (y : DL q.ins) (bs0 bs : List (Nat × List Step)) (v : Value) (Fo : Fp) (l l' : List Nat) (m nw : RL) (bs' : List (Nat × List Step)) (j : Nat),
    BackP w S s.rt rv K q v bs0 → Arg w' S' q y v Fo → KeepOk w w' S S' K Fo → (bs0.map (·.1)).Nodup → (putBack q i y (bs0 ++ bs)).run s l = some ((m, nw, bs', j), l') → bs' = bs ∧ ∃ its, m = its.map Item.own ∧ nw = its.flatMap (·.new) ∧ Items w' S' s.rt rv K its bs0 i j Fo
  | .io d τ, i, y, bs0, bs, v, Fo, l, l', m, nw, bs', j, hb, ha, hk, hn, h => by
    simp only [BackP] at hb
    obtain ⟨id, p, r, rfl, hr, hsl, hio⟩ := hb
    simp only [Arg] at ha
    obtain ⟨xs', e1, e2⟩ := hio w' S' y Fo hk.s (fun b hb => hb.elim (hk.kw id b) (hk.sw b)) ha (fun b hb => hk.ko id b hb)
    simp only [List.cons_append, List.nil_append, putBack, Rd.run, hr] at h
    rw [e1] at h
    have := ret_some h; cases this
    refine ⟨rfl, [⟨id, .live { r with xs := xs', ver := bump r }, fun b => K id b ∨ Fo b, [], fun _ => False⟩], rfl, rfl, ?_, rfl, by simp [Abs.ids], ?_, ?_, List.pairwise_singleton _ _⟩
    · intro it hi
      simp at hi
      subst hi
      exact .inl ⟨r, { r with xs := xs', ver := bump r }, hr, rfl, rfl, rfl, rfl, e2, rfl, fun _ h => h⟩
    · intro it hi b hb
      simp at hi
      subst hi
      exact hb.symm
    · intro it hi b hb
      simp at hi
      subst hi
      exact hb.elim
  | .box d τ, i, y, bs0, bs, v, Fo, l, l', m, nw, bs', j, hb, ha, hk, hn, h => by
    simp only [BackP] at hb
    obtain ⟨id, c, b, rfl, hr, hrv, rfl, hk0⟩ := hb
    simp only [Arg] at ha
    obtain ⟨b', arr, F', g1, g2, g3, g4, g5, g6⟩ := ha
    obtain rfl : b' = b := by rw [hrv] at g1; cases g1; rfl
    simp only [List.cons_append, List.nil_append, putBack] at h
    have := ret_some h; cases this
    refine ⟨rfl, [⟨id, .box τ (unpack1 d τ i y).1, fun b => b = b', (unpack1 d τ i y).2.1, F'⟩], rfl, by simp, ?_, rfl, by simpa using unpack1_ids τ d i y, ?_, ?_, List.pairwise_singleton _ _⟩
    · intro it hi
      simp at hi
      subst hi
      exact .inr ⟨τ, c, d, y, i, b', arr, hr, rfl, rfl, hrv, g2, g3, g4, fun _ => Iff.rfl, g5⟩
    · intro it hi b hb
      simp at hi
      subst hi
      exact .inl ((g6 b).2 (.inl hb))
    · intro it hi b hb
      simp at hi
      subst hi
      exact (g6 b).2 (.inr hb)
  | .fn f p, i, y, bs0, bs, v, Fo, l, l', m, nw, bs', j, hb, ha, hk, hn, h => by
    simp only [BackP] at hb
    obtain ⟨us, rfl, hb⟩ := hb
    simp only [Arg] at ha
    obtain ⟨us', e, ha⟩ := ha
    obtain rfl : us = us' := by simpa using e
    exact backL_items p i y bs0 bs us Fo l l' m nw bs' j hb ha hk hn h
  | .agg p, i, y, bs0, bs, v, Fo, l, l', m, nw, bs', j, hb, ha, hk, hn, h => by
    simp only [BackP] at hb
    obtain ⟨us, rfl, ho, hb⟩ := hb
    simp only [Arg] at ha
    obtain ⟨us', e, ha⟩ := ha
    have e' : (us.flatMap fun u : Value => u.cells.toList) = (us'.flatMap fun u : Value => u.cells.toList) := by simpa using e
    exact backL_items p i y bs0 bs us' Fo l l' m nw bs' j ((backL_swap ho hb ha).2 e') ha hk hn h
  | .cons _ _, i, y, bs0, bs, v, Fo, l, l', m, nw, bs', j, hb, ha, hk, hn, h | .nil, i, y, bs0, bs, v, Fo, l, l', m, nw, bs', j, hb, ha, hk, hn, h
  | .val _, i, y, bs0, bs, v, Fo, l, l', m, nw, bs', j, hb, ha, hk, hn, h | .own _ _, i, y, bs0, bs, v, Fo, l, l', m, nw, bs', j, hb, ha, hk, hn, h => by simp [BackP] at hb
  | .any _, i, y, bs0, bs, v, Fo, l, l', m, nw, bs', j, hb, ha, hk, hn, h => by
    simp only [BackP] at hb; obtain ⟨rfl, _⟩ := hb
    simp only [putBack, List.nil_append] at h
    have := ret_some h; cases this
    exact ⟨rfl, [], rfl, rfl, Items.nil⟩
  | .skip, i, y, bs0, bs, v, Fo, l, l', m, nw, bs', j, hb, ha, hk, hn, h => by
    simp only [BackP] at hb; subst hb
    simp only [putBack, List.nil_append] at h
    have := ret_some h; cases this
    exact ⟨rfl, [], rfl, rfl, Items.nil⟩
theorem backL_items {w' : World} {S' : Fp} {K : Nat → Fp} : ∀ (q : Par) (i : Nat) (y : DL q.ins) (bs0 bs : List (Nat × List Step)) (us : List Value) (Fo : Fp) (l l' : List Nat) (m nw : RL) (bs' : List (Nat × List Step)) (j : Nat),
    BackL w S s.rt rv K q us bs0 → ArgL w' S' q y us Fo → KeepOk w w' S S' K Fo → (bs0.map (·.1)).Nodup → (putBack q i y (bs0 ++ bs)).run s l = some ((m, nw, bs', j), l') → bs' = bs ∧ ∃ its, m = its.map Item.own ∧ nw = its.flatMap (·.new) ∧ Items w' S' s.rt rv K its bs0 i j Fo
  | .nil, i, y, bs0, bs, us, Fo, l, l', m, nw, bs', j, hb, ha, hk, hn, h => by
    simp only [BackL] at hb
    obtain ⟨rfl, rfl⟩ := hb
    simp only [putBack, List.nil_append] at h
    have := ret_some h; cases this
    exact ⟨rfl, [], rfl, rfl, Items.nil⟩
  | .cons p q, i, y, bs0, bs, us, Fo, l, l', m, nw, bs', j, hb, ha, hk, hn, h => by
    simp only [BackL] at hb
    obtain ⟨u, us', b1, b2, rfl, rfl, h1, h2⟩ := hb
    simp only [ArgL] at ha
    obtain ⟨u1, us1, F1, F2, e, a1, a2, a3, a4⟩ := ha
    obtain ⟨rfl, rfl⟩ : u = u1 ∧ us' = us1 := by simpa using e
    simp only [putBack] at h
    rw [List.append_assoc] at h
    obtain ⟨⟨m1, n1, c1, j1⟩, l1, k1, k2⟩ := run_bind_some h
    obtain ⟨⟨m2, n2, c2, j2⟩, l2, k3, k4⟩ := run_bind_some k2
    have := ret_some k4; cases this
    have hn' := hn
    rw [List.map_append] at hn'
    obtain ⟨hn1, hn2, _⟩ := List.nodup_append.1 hn'
    obtain ⟨rfl, A, rfl, rfl, x⟩ := backP_items p i (DL.left y) b1 (b2 ++ bs) u F1 l l1 m1 n1 c1 j1 h1 a1 (hk.sub fun b hb => (a4 b).2 (.inl hb)) hn1 k1
    obtain ⟨rfl, B, rfl, rfl, z⟩ := backL_items q j1 (DL.right y) b2 bs us' F2 _ _ m2 n2 _ _ h2 a2 (hk.sub fun b hb => (a4 b).2 (.inr hb)) hn2 k3
    exact ⟨rfl, A ++ B, by simp, by simp, x.app z a3 a4 hk.dis hk.ko hn⟩
  | .val _, i, y, bs0, bs, us, Fo, l, l', m, nw, bs', j, hb, ha, hk, hn, h | .own _ _, i, y, bs0, bs, us, Fo, l, l', m, nw, bs', j, hb, ha, hk, hn, h | .io _ _, i, y, bs0, bs, us, Fo, l, l', m, nw, bs', j, hb, ha, hk, hn, h
  | .box _ _, i, y, bs0, bs, us, Fo, l, l', m, nw, bs', j, hb, ha, hk, hn, h | .agg _, i, y, bs0, bs, us, Fo, l, l', m, nw, bs', j, hb, ha, hk, hn, h | .fn _ _, i, y, bs0, bs, us, Fo, l, l', m, nw, bs', j, hb, ha, hk, hn, h
  | .any _, i, y, bs0, bs, us, Fo, l, l', m, nw, bs', j, hb, ha, hk, hn, h | .skip, i, y, bs0, bs, us, Fo, l, l', m, nw, bs', j, hb, ha, hk, hn, h => by simp [BackL] at hb
end

theorem flat_fld : ∀ {τ : Ty} {k : Nat} {σ : Ty} {δ : Nat}, τ.flat = true → τ.fldOff k = some (σ, δ) → σ.flat = true
  | .one f, 0, σ, δ, h, hk => by simp [Ty.fldOff] at hk; obtain ⟨rfl, _⟩ := hk; exact h
  | .one f, _ + 1, σ, δ, h, hk => by simp [Ty.fldOff] at hk
  | .pair f r, 0, σ, δ, h, hk => by simp [Ty.fldOff] at hk; obtain ⟨rfl, _⟩ := hk; simp [Ty.flat] at h; exact h.1
  | .pair f r, k + 1, σ, δ, h, hk => by
    simp only [Ty.fldOff, Option.map_eq_some_iff] at hk
    obtain ⟨⟨σ', δ'⟩, hk, e⟩ := hk
    simp at e
    obtain ⟨rfl, _⟩ := e
    simp [Ty.flat] at h
    exact flat_fld h.2 hk
  | .int _, _, _, _, _, hk | .bool, _, _, _, _, hk | .str, _, _, _, _, hk | .list _, _, _, _, _, hk => by simp [Ty.fldOff] at hk

theorem flat_walk : ∀ {p : List Step} {τ : Ty} {b o : Nat} {r : Ty × Nat × Nat}, τ.flat = true → walk w τ b o p = some r → nix p = 0 ∧ r.1.flat = true
  | [], τ, b, o, r, h, hw => by simp [walk] at hw; subst hw; exact ⟨rfl, h⟩
  | .fl k :: p, τ, b, o, r, h, hw => by
    have e : walk w τ b o (.fl k :: p) = match τ.fldOff k with | some (σ, δ) => walk w σ b (o + δ) p | none => none := by cases τ <;> rfl
    rw [e] at hw
    split at hw
    · rename_i σ δ hk
      exact flat_walk (p := p) (flat_fld h hk) hw
    · cases hw
  | .ix i :: p, τ, b, o, r, h, hw => by
    cases τ <;> first | (simp [Ty.flat] at h; done) | (simp [walk] at hw)

theorem flat_walkV {p : List Step} {τ : Ty} {v : Value} {r : Ty × Nat × Nat} (h : τ.flat = true) (hw : walkV w v τ p = some r) : nix p = 1 ∧ r.1.flat = true := by
  cases p with
  | nil => simp [walkV] at hw
  | cons x p =>
    cases x with
    | fl k => simp [walkV] at hw
    | ix i =>
      simp only [walkV] at hw
      split at hw
      · split at hw
        · obtain ⟨h1, h2⟩ := flat_walk h hw
          exact ⟨by simp [nix, h1], h2⟩
        · cases hw
      · cases hw

theorem updRts_mem : ∀ (l : RL) (rt : Nat → RSt) (j : Nat) (st : RSt), (ids l).Nodup → (j, st) ∈ l → updRts l rt j = st
  | (i, r) :: l, rt, j, st, hn, h => by
    simp [ids] at hn
    rw [updRts]
    rcases List.mem_cons.1 h with h | h
    · cases h
      rw [updRts_other l _ _ (by simpa [ids] using hn.1)]
      simp [updRt]
    · exact updRts_mem l _ j st hn.2 h

/-- the order does not matter -/
theorem updRts_eq {l m : RL} {rt : Nat → RSt} (hl : (ids l).Nodup) (hm : (ids m).Nodup) (h : ∀ p, p ∈ l ↔ p ∈ m) : updRts l rt = updRts m rt := by
  funext j
  by_cases hj : j ∈ ids l
  · obtain ⟨st, hst⟩ := mem_ids.1 hj
    rw [updRts_mem l rt j st hl hst, updRts_mem m rt j st hm ((h _).1 hst)]
  · have hj' : j ∉ ids m := fun hc => by
      obtain ⟨st, hst⟩ := mem_ids.1 hc
      exact hj (mem_ids.2 ⟨st, (h _).2 hst⟩)
    rw [updRts_other l rt j hj, updRts_other m rt j hj']

def er (rt : Nat → RSt) : Nat → RSt := fun i => match rt i with
  | .box σ _ => .box σ .undef
  | x => x

theorem er_live {rt : Nat → RSt} {i : Nat} {r : Root} : er rt i = .live r ↔ rt i = .live r := by
  unfold er; cases rt i <;> simp
theorem er_frz {rt : Nat → RSt} {i : Nat} {τ : Ty} {xs : List τ.den} : er rt i = .frz τ xs ↔ rt i = .frz τ xs := by
  unfold er; cases rt i <;> simp
theorem er_hole {rt : Nat → RSt} {i : Nat} {r : Root} {q : List Step} : er rt i = .hole r q ↔ rt i = .hole r q := by
  unfold er; cases rt i <;> simp
theorem er_none {rt : Nat → RSt} {i : Nat} : er rt i = .none ↔ rt i = .none := by
  unfold er; cases rt i <;> simp
theorem er_box {rt : Nat → RSt} {i : Nat} {σ : Ty} {c : SV} : er rt i = .box σ c ↔ c = .undef ∧ ∃ c', rt i = .box σ c' := by
  unfold er
  cases h : rt i <;> simp
  exact ⟨fun ⟨a, b⟩ => ⟨b.symm, a⟩, fun ⟨a, b⟩ => ⟨b, a.symm⟩⟩

theorem nodup_inj {l : List Item} (h : (l.map (·.id)).Nodup) {a c : Item} (ha : a ∈ l) (hc : c ∈ l) (e : a.id = c.id) : a = c := by
  induction l with
  | nil => cases ha
  | cons x l ih =>
    simp only [List.map_cons, List.nodup_cons] at h
    rcases List.mem_cons.1 ha with ea | ha' <;> rcases List.mem_cons.1 hc with ec | hc'
    · rw [ea, ec]
    · exact absurd (List.mem_map.2 ⟨c, hc', by rw [← e, ea]⟩) h.1
    · exact absurd (List.mem_map.2 ⟨a, ha', by rw [e, ec]⟩) h.1
    · exact ih h.2 ha' hc'

theorem pair_mem {l : List Item} (h : l.Pairwise fun a c => Disj a.fp c.fp) {a c : Item} (ha : a ∈ l) (hc : c ∈ l) {b : Nat} (h1 : a.fp b) (h2 : c.fp b) : a = c := by
  induction l with
  | nil => cases ha
  | cons x l ih =>
    obtain ⟨h3, h4⟩ := List.pairwise_cons.1 h
    rcases List.mem_cons.1 ha with ea | ha' <;> rcases List.mem_cons.1 hc with ec | hc'
    · rw [ea, ec]
    · subst ea; exact absurd h2 (h3 c hc' b h1)
    · subst ec; exact absurd h1 (h3 a ha' b h2)
    · exact ih h4 ha' hc'

structure Went (w w' : World) (S Sl Fa S' Fr Fo : Fp) : Prop where
  hw : ∀ b, b < w.heap.size → ¬ Fa b → w'.heap[b]? = w.heap[b]?
  hsz : w.heap.size ≤ w'.heap.size
  hsame : Same w w'
  h1 : ∀ b, S b ∨ Sl b → S' b
  h2 : ∀ b, S' b → S b ∨ Sl b ∨ Fa b ∨ w.heap.size ≤ b
  h3 : ∀ b, S' b → b < w'.heap.size
  h4 : ∀ b, Fr b ∨ Fo b → (Fa b ∨ w.heap.size ≤ b) ∧ ¬ S' b ∧ b < w'.heap.size
  h5 : Disj Fr Fo

/-- Behind the call: the roots that are given back stand again, the rest waits. -/
theorem back_mem (m : Mem C s.rt rv F S G w) {dead : RL} {back : List (Nat × List Step)} {lent : List Nat} {K : Nat → Fp} {Fa Sl : Fp} (t : Took w S F s.rt dead back lent K Fa Sl) {w' : World} {S' Fr Fo : Fp} (g : Went w w' S Sl Fa S' Fr Fo)
    {its : List Item} {i j : Nat} (hi : Items w' S' s.rt rv K its back i j Fo) :
    Mem C (er (updRts (dead ++ its.map Item.own) s.rt)) rv (fun k b => (∃ it ∈ its, it.id = k ∧ it.top b) ∨ (k ∉ idsOf dead back ∧ F k b)) S' (fun b => (∃ it ∈ its, it.rest b) ∨ Fr b) w' ∧
    Keep w S s.rt rv w' S' (er (updRts (dead ++ its.map Item.own) s.rt)) rv := by
  have hids : ids (dead ++ its.map Item.own) = idsOf dead back := by
    unfold idsOf
    rw [← hi.ids]; simp [ids, Item.own, Function.comp_def]
  have hnd : (ids (dead ++ its.map Item.own)).Nodup := by rw [hids]; exact t.nodup
  have hndI : (its.map (·.id)).Nodup := by rw [hi.ids]; exact (List.nodup_append.1 t.nodup).2.1
  generalize hrt : updRts (dead ++ its.map Item.own) s.rt = rt2
  have ldead : ∀ {k st}, (k, st) ∈ dead → rt2 k = st := fun h => by rw [← hrt]; exact updRts_mem _ _ _ _ hnd (List.mem_append_left _ h)
  have lits : ∀ {it}, it ∈ its → rt2 it.id = it.st := fun h => by rw [← hrt]; exact updRts_mem _ _ _ _ hnd (List.mem_append_right _ (List.mem_map.2 ⟨_, h, rfl⟩))
  have loth : ∀ {k}, k ∉ idsOf dead back → rt2 k = s.rt k := fun h => by rw [← hrt]; exact updRts_other _ _ _ (by rw [hids]; exact h)
  -- where an id stands
  have cases3 : ∀ k, (∃ st, (k, st) ∈ dead) ∨ (∃ it ∈ its, it.id = k) ∨ k ∉ idsOf dead back := by
    intro k
    by_cases h : k ∈ idsOf dead back
    · rcases List.mem_append.1 h with h | h
      · exact .inl (mem_ids.1 h)
      · rw [← hi.ids] at h
        obtain ⟨it, h1, h2⟩ := List.mem_map.1 h
        exact .inr (.inl ⟨it, h1, h2⟩)
    · exact .inr (.inr h)
  have itin : ∀ {it}, it ∈ its → it.id ∈ idsOf dead back := fun h => List.mem_append_right _ (by rw [← hi.ids]; exact List.mem_map.2 ⟨_, h, rfl⟩)
  have deadin : ∀ {k st}, (k, st) ∈ dead → k ∈ idsOf dead back := fun h => List.mem_append_left _ (mem_ids.2 ⟨_, h⟩)
  have hFa : ∀ {k b}, k ∉ idsOf dead back → F k b → ¬ Fa b := by
    intro k b hk hb hc
    obtain ⟨k', hk', hb'⟩ := t.fa b hc
    have := m.dis k k' b hb hb'
    subst this
    exact hk hk'
  have keepF : ∀ {k b}, k ∉ idsOf dead back → F k b → w'.heap[b]? = w.heap[b]? := fun hk hb => g.hw _ (m.lt hb) (hFa hk hb)
  have keepS : ∀ b, S b ∨ Sl b → w'.heap[b]? = w.heap[b]? := by
    rintro b (hb | hb)
    · refine g.hw b (m.slt b hb) fun hc => ?_
      obtain ⟨k, _, hk⟩ := t.fa b hc
      exact (m.sep k b hk).1 hb
    · refine g.hw b ?_ fun hc => t.apart b hc hb
      obtain ⟨k, _, hk⟩ := t.sl b hb
      exact m.lt hk
  have keepS' : ∀ b, S b → w'.heap[b]? = w.heap[b]? := fun b hb => keepS b (.inl hb)
  have hFo : ∀ {it b}, it ∈ its → it.fp b → Fo b ∨ K it.id b := fun h hb => hb.elim (hi.top _ h _) fun hb => .inl (hi.rest _ h _ hb)
  have hKS : ∀ {k b}, K k b → ¬ S' b ∧ b < w'.heap.size := by
    intro k b hb
    obtain ⟨q1, q2, q3⟩ := t.kp k b hb
    refine ⟨fun hs => ?_, Nat.lt_of_lt_of_le (m.lt q2) g.hsz⟩
    rcases g.h2 b hs with h | h | h | h
    · exact (m.sep k b q2).1 h
    · obtain ⟨k', hk', hb'⟩ := t.sl b h
      have := m.dis k k' b q2 hb'
      subst this
      exact (List.nodup_append.1 t.nodup).2.2 k hk' k q1 rfl
    · exact q3 h
    · have := m.lt q2; omega
  have hsome : ∀ k, s.rt k ≠ .none → rt2 k ≠ .none := by
    intro k hk
    rcases cases3 k with ⟨st, h⟩ | ⟨it, h, rfl⟩ | h
    · obtain ⟨r, _, hd⟩ := t.takes k st h
      rw [ldead h]
      rcases hd with rfl | rfl <;> simp
    · rw [lits h]
      rcases hi.ok it h with ⟨r, r', _, e, _⟩ | ⟨σ, c0, d, y, i, b, arr, _, e, _⟩ <;> rw [e] <;> simp
    · rw [loth h]; exact hk
  have lhole : ∀ {k r q}, er rt2 k = .hole r q → k ∉ idsOf dead back ∧ s.rt k = .hole r q := by
    intro k r q h
    rw [er_hole] at h
    rcases cases3 k with ⟨st, hk⟩ | ⟨it, hk, rfl⟩ | hk
    · exfalso
      obtain ⟨r, _, hd⟩ := t.takes k st hk
      rw [ldead hk] at h
      rcases hd with rfl | rfl <;> cases h
    · exfalso
      rw [lits hk] at h
      rcases hi.ok it hk with ⟨r, r1, e1, e2, _⟩ | ⟨σ, c0, d, y, i, b, arr, _, e, _⟩
      · rw [e2] at h; cases h
      · rw [e] at h; cases h
    · rw [loth hk] at h; exact ⟨hk, h⟩
  have K1 : Keep w S s.rt rv w' S' (er rt2) rv := by
    refine ⟨fun b hb => g.h1 b (.inl hb), keepS', fun _ _ => rfl, fun k hk hc => hsome k hk (er_none.1 hc), fun k r' h hn => ?_, fun k r q h hn => ⟨r, .inr ⟨q, (lhole h).2⟩, rfl, Nat.le_refl _⟩, fun k τ xs h hn => ?_, fun k σ c h hn => ?_⟩
    · rw [er_live] at h
      rcases cases3 k with ⟨st, hk⟩ | ⟨it, hk, rfl⟩ | hk
      · exfalso
        obtain ⟨r, _, hd⟩ := t.takes k st hk
        rw [ldead hk] at h
        rcases hd with rfl | rfl <;> cases h
      · rw [lits hk] at h
        rcases hi.ok it hk with ⟨r, r1, e1, e2, e3, e4, e5, e6, _⟩ | ⟨σ, c0, d, y, i, b, arr, _, e, _⟩
        · rw [e2] at h; cases h
          refine .inl ⟨r, e1, e3, fun _ => e4, ?_, fun hv p σ b o hn hwk => ?_⟩
          · rw [e5]; unfold bump; cases r.τ.flat <;> simp
          · have hfl : r.τ.flat = true := by
              rw [e5] at hv
              unfold bump at hv
              cases hfl : r.τ.flat with
              | true => rfl
              | false => rw [hfl] at hv; simp at hv
            obtain ⟨q1, q2⟩ := flat_walkV hfl hwk
            refine ⟨by rw [walkV_one (w := w) (by omega)]; exact hwk, fun _ e v he _ => ?_⟩
            simp only at q2
            rw [he] at q2
            simp [Ty.flat] at q2
        · rw [e] at h; cases h
      · rw [loth hk] at h
        refine .inl ⟨r', h, rfl, fun _ => rfl, Nat.le_refl _, fun _ p σ b o hnx hwk => ?_⟩
        have hrep := m.live k r' h
        obtain ⟨y, hy, qk, arr, Fs, Fr, a1, _, a3, a4, a5, a6, a7, _⟩ := focV hrep hwk hnx
        have hFb : F k b := (a6 b).2 (.inr (.inr ⟨trivial, rfl⟩))
        exact ⟨walkV_frame hrep hwk hnx fun b hb => keepF hk hb, fun _ e v he hc => by
          have hb := keepF hk hFb
          simp only [World.cell?, hb] at hc ⊢
          exact hc⟩
    · rw [er_frz] at h
      rcases cases3 k with ⟨st, hk⟩ | ⟨it, hk, rfl⟩ | hk
      · obtain ⟨r, hr, hd⟩ := t.takes k st hk
        exact .inr (.inl ⟨r, hr⟩)
      · rw [lits hk] at h
        rcases hi.ok it hk with ⟨r, r1, e1, e2, _⟩ | ⟨σ, c0, d, y, i, b, arr, _, e, _⟩
        · rw [e2] at h; cases h
        · rw [e] at h; cases h
      · rw [loth hk] at h; exact .inl h
    · obtain ⟨rfl, c', h⟩ := er_box.1 h
      rcases cases3 k with ⟨st, hk⟩ | ⟨it, hk, rfl⟩ | hk
      · exfalso
        obtain ⟨r, _, hd⟩ := t.takes k st hk
        rw [ldead hk] at h
        rcases hd with rfl | rfl <;> cases h
      · rw [lits hk] at h
        rcases hi.ok it hk with ⟨r, r1, e1, e2, _⟩ | ⟨σ', c0, d, y, i, b, arr, e0, e, _⟩
        · rw [e2] at h; cases h
        · rw [e] at h; cases h; exact ⟨c0, e0⟩
      · rw [loth hk] at h; exact ⟨c', h⟩
  have fin : ∀ b, Fa b ∨ w.heap.size ≤ b → C.Fin b ∨ C.w0.heap.size ≤ b := by
    rintro b (hb | hb)
    · obtain ⟨k, _, hk⟩ := t.fa b hb
      exact m.own k b (.inl hk)
    · exact .inr (Nat.le_trans m.size hb)
  have othFo : ∀ {k b}, k ∉ idsOf dead back → F k b → ¬ Fo b ∧ ¬ Fr b := by
    intro k b hk hb
    refine ⟨fun hc => ?_, fun hc => ?_⟩
    · rcases (g.h4 b (.inr hc)).1 with h | h
      · exact hFa hk hb h
      · have := m.lt hb; omega
    · rcases (g.h4 b (.inl hc)).1 with h | h
      · exact hFa hk hb h
      · have := m.lt hb; omega
  have hfp : ∀ {it b k}, it ∈ its → it.fp b → k ∉ idsOf dead back → F k b → False := by
    intro it b k hit hb hk hF
    rcases hFo hit hb with h | h
    · exact (othFo hk hF).1 h
    · obtain ⟨q1, q2, q3⟩ := t.kp _ b h
      have := m.dis k _ b hF q2
      subst this
      exact hk (itin hit)
  have hfr : ∀ {it b}, it ∈ its → it.fp b → ¬ Fr b := by
    intro it b hit hb hc
    rcases hFo hit hb with h | h
    · exact g.h5 b hc h
    · obtain ⟨q1, q2, q3⟩ := t.kp _ b h
      rcases (g.h4 b (.inl hc)).1 with h' | h'
      · exact q3 h'
      · have := m.lt q2; omega
  have hnS : ∀ {it b}, it ∈ its → it.fp b → ¬ S' b ∧ b < w'.heap.size := by
    intro it b hit hb
    rcases hFo hit hb with h | h
    · exact (g.h4 b (.inr h)).2
    · exact hKS h
  refine ⟨?_, K1⟩
  constructor
  · intro k r h
    rw [er_live] at h
    rcases cases3 k with ⟨st, hk⟩ | ⟨it, hk, rfl⟩ | hk
    · exfalso
      obtain ⟨r, _, hd⟩ := t.takes k st hk
      rw [ldead hk] at h
      rcases hd with rfl | rfl <;> cases h
    · rw [lits hk] at h
      rcases hi.ok it hk with ⟨r0, r1, e1, e2, e3, e4, e5, e6, _⟩ | ⟨σ, c0, d, y, i, b, arr, _, e, _⟩
      · rw [e2] at h; cases h
        refine rep_iff e6 fun b => ⟨?_, fun hb => .inl ⟨it, hk, rfl, hb⟩⟩
        rintro (⟨it', hk', e, hb⟩ | ⟨hk', _⟩)
        · rw [nodup_inj hndI hk' hk e] at hb; exact hb
        · exact absurd (itin hk) hk'
      · rw [e] at h; cases h
    · rw [loth hk] at h
      refine rep_iff (rep_frame (fun b hb => g.h1 b (.inl hb)) keepS' (fun b hb => keepF hk hb) (m.live k r h)) fun b => ⟨?_, fun hb => .inr ⟨hk, hb⟩⟩
      rintro (⟨it', hk', e, hb⟩ | ⟨_, hb⟩)
      · subst e; exact absurd (itin hk') hk
      · exact hb
  · intro k τ xs h
    rw [er_frz] at h
    rcases cases3 k with ⟨st, hk⟩ | ⟨it, hk, rfl⟩ | hk
    · obtain ⟨r, hr, hd⟩ := t.takes k st hk
      rw [ldead hk] at h
      subst h
      rcases hd with hd | hd
      · cases hd
      · cases hd
        have h0 : rep w (fun b => S b ∨ Sl b) (.list r.τ) 0 r.xs [rv k] (fun _ => False) :=
          rep_mono (fun b hb => hb.imp (fun h => h) fun hb => t.frz k _ _ hk b hb) (rep_freeze (m.live k r hr))
        exact rep_frame g.h1 keepS (fun _ h => h.elim) h0
    · exfalso
      rw [lits hk] at h
      rcases hi.ok it hk with ⟨r, r1, e1, e2, _⟩ | ⟨σ, c0, d, y, i, b, arr, _, e, _⟩
      · rw [e2] at h; cases h
      · rw [e] at h; cases h
    · rw [loth hk] at h
      exact rep_frame (fun b hb => g.h1 b (.inl hb)) keepS' (fun _ h => h.elim) (m.frz k τ xs h)
  · intro k σ c h
    obtain ⟨rfl, c', h⟩ := er_box.1 h
    rcases cases3 k with ⟨st, hk⟩ | ⟨it, hk, rfl⟩ | hk
    · exfalso
      obtain ⟨r, _, hd⟩ := t.takes k st hk
      rw [ldead hk] at h
      rcases hd with rfl | rfl <;> cases h
    · rw [lits hk] at h
      rcases hi.ok it hk with ⟨r, r1, e1, e2, _⟩ | ⟨σ', c0, d, y, i, b, arr, e0, e, e3, e4, e5, e6, e7, e8, e9⟩
      · rw [e2] at h; cases h
      · rw [e] at h; cases h
        refine ⟨b, arr, e4, e5, e6, fun b' => ?_, ?_⟩
        · constructor
          · rintro (⟨it', hk', e, hb⟩ | ⟨hk', _⟩)
            · rw [nodup_inj hndI hk' hk e] at hb; exact (e8 b').1 hb
            · exact absurd (itin hk) hk'
          · exact fun hb => .inl ⟨it, hk, rfl, (e8 b').2 hb⟩
        · simp only [BRep]
          exact ⟨rep_len e7, rep_one e7⟩
    · rw [loth hk] at h
      obtain ⟨b, arr, q1, q2, q3, q4, q6⟩ := m.box k σ c' h
      refine ⟨b, arr, q1, q2.of_eq (keepF hk ((q4 b).2 rfl)), q3, fun b' => ?_, ?_⟩
      · constructor
        · rintro (⟨it', hk', e, hb⟩ | ⟨_, hb⟩)
          · subst e; exact absurd (itin hk') hk
          · exact (q4 b').1 hb
        · exact fun hb => .inr ⟨hk, (q4 b').2 hb⟩
      · simp only [BRep]
        exact ⟨BRep_len q6, BRep_one q6⟩
  · intro k r q h
    obtain ⟨hk, h⟩ := lhole h
    refine (m.hole k r q h).frame (fun b => ⟨?_, fun hb => .inr ⟨hk, hb⟩⟩) (fun b hb => g.h1 b (.inl hb)) g.hsz (fun b hb => hb.elim (keepF hk) (keepS' b))
    rintro (⟨it', hk', e, hb⟩ | ⟨_, hb⟩)
    · subst e; exact absurd (itin hk') hk
    · exact hb
  · rintro k b (⟨it, hk, rfl, hb⟩ | ⟨hk, hb⟩)
    · rcases hi.ok it hk with ⟨r, r1, e1, e2, _⟩ | ⟨σ, c0, d, y, i, b, arr, _, e, _⟩
      · exact .inl ⟨r1, er_live.2 ((lits hk).trans e2)⟩
      · exact .inr (.inl ⟨σ, .undef, er_box.2 ⟨rfl, _, (lits hk).trans e⟩⟩)
    · rcases m.none k b hb with ⟨r, hr⟩ | ⟨σ, c, hr⟩ | ⟨r, q, hr⟩
      · exact .inl ⟨r, er_live.2 ((loth hk).trans hr)⟩
      · exact .inr (.inl ⟨σ, .undef, er_box.2 ⟨rfl, c, (loth hk).trans hr⟩⟩)
      · exact .inr (.inr ⟨r, q, er_hole.2 ((loth hk).trans hr)⟩)
  · rintro k1 k2 b (⟨it, hk, rfl, hb⟩ | ⟨hk, hb⟩) (⟨it', hk', rfl, hb'⟩ | ⟨hk', hb'⟩)
    · rw [pair_mem hi.apart hk hk' (.inl hb) (.inl hb')]
    · exact (hfp hk (.inl hb) hk' hb').elim
    · exact (hfp hk' (.inl hb') hk hb).elim
    · exact m.dis k1 k2 b hb hb'
  · rintro k b (⟨it, hk, rfl, hb⟩ | ⟨hk, hb⟩)
    · refine ⟨(hnS hk (.inl hb)).1, ?_⟩
      rintro (⟨it', hk', hb'⟩ | hb')
      · have := pair_mem hi.apart hk hk' (.inl hb) (.inr hb')
        subst this
        rcases hi.ok it hk with ⟨r, r1, e1, e2, e3, e4, e5, e6, e7, e8⟩ | ⟨σ', c0, d, y, i, b0, arr, e0, e, e3, e4, e5, e6, e7, e8, e9⟩
        · exact e8 b hb'
        · rw [e8] at hb; subst hb; exact e9 hb'
      · exact hfr hk (.inl hb) hb'
    · refine ⟨fun hs => ?_, ?_⟩
      · rcases g.h2 b hs with h | h | h | h
        · exact (m.sep k b hb).1 h
        · obtain ⟨k', hk', hb'⟩ := t.sl b h
          have := m.dis k k' b hb hb'
          subst this
          exact hk (List.mem_append_left _ hk')
        · exact hFa hk hb h
        · have := m.lt hb; omega
      · rintro (⟨it', hk', hb'⟩ | hb')
        · exact hfp hk' (.inr hb') hk hb
        · exact (othFo hk hb).2 hb'
  · rintro b (⟨it, hk, hb⟩ | hb)
    · exact (hnS hk (.inr hb)).1
    · exact (g.h4 b (.inl hb)).2.1
  · rintro b (⟨it, hk, hb⟩ | hb)
    · exact (hnS hk (.inr hb)).2
    · exact (g.h4 b (.inl hb)).2.2
  · exact g.h3
  · exact m.same.trans g.hsame
  · exact Nat.le_trans m.size g.hsz
  · intro b hb hf
    refine (g.hw b (Nat.lt_of_lt_of_le hb m.size) fun hc => ?_).trans (m.frame b hb hf)
    rcases fin b (.inl hc) with h | h
    · exact hf h
    · omega
  · rintro k b ((⟨it, hk, _, hb⟩ | ⟨hk, hb⟩) | (⟨it, hk, hb⟩ | hb))
    · rcases hFo hk (.inl hb) with h | h
      · exact fin b (g.h4 b (.inr h)).1
      · exact m.own _ b (.inl (t.kp _ b h).2.1)
    · exact m.own k b (.inl hb)
    · exact fin b (g.h4 b (.inr (hi.rest _ hk _ hb))).1
    · exact fin b (g.h4 b (.inl hb)).1
  · exact fun b hb => g.h1 b (.inl (m.s0 b hb))
  · intro b hb
    rcases g.h2 b hb with h | h | h | h
    · exact m.shr b h
    · obtain ⟨k', hk', hb'⟩ := t.sl b h
      exact .inr (m.own k' b (.inl hb'))
    · exact .inr (fin b (.inl h))
    · exact .inr (fin b (.inr h))
  · exact m.ok

theorem Keep.er (w : World) (S : Fp) (rt : Nat → RSt) (rv : Nat → Value) : Keep w S (er rt) rv w S rt rv :=
  ⟨fun _ h => h, fun _ _ => rfl, fun _ _ => rfl, fun id h hc => h (er_none.2 hc), fun id r h _ => .inl ⟨r, er_live.2 h, rfl, fun _ => rfl, Nat.le_refl _, fun _ p σ b o _ h => ⟨h, fun _ _ _ _ h => h⟩⟩, fun id r q h _ => ⟨r, .inr ⟨q, er_hole.2 h⟩, rfl, Nat.le_refl _⟩,
    fun _ _ _ h _ => .inl (er_frz.2 h), fun _ _ c h _ => ⟨.undef, er_box.2 ⟨rfl, c, h⟩⟩⟩

theorem Mem.fill {rt : Nat → RSt} (m : Mem C (er rt) rv F S G w) (h : ∀ id σ c, rt id = .box σ c → ∃ b arr, rv id = .pointer (some ⟨b, 0, Option.none⟩) ∧ Has w b arr ∧ BRep w S rt rv c σ arr.toList) : Mem C rt rv F S G w where
  live := fun id r hr => m.live id r (er_live.2 hr)
  frz := fun id τ xs hr => m.frz id τ xs (er_frz.2 hr)
  box := fun id σ c hr => by
    obtain ⟨b, arr, q1, q2, q3, q4, _⟩ := m.box id σ .undef (er_box.2 ⟨rfl, c, hr⟩)
    obtain ⟨b', arr', k1, k2, k3⟩ := h id σ c hr
    obtain rfl : b = b' := by rw [q1] at k1; cases k1; rfl
    obtain rfl := q2.has.eq k2
    exact ⟨b, arr, q1, q2, q3, q4, k3⟩
  hole := fun id r q hr => m.hole id r q (er_hole.2 hr)
  none := fun id b hb => (m.none id b hb).imp (fun ⟨r, hr⟩ => ⟨r, er_live.1 hr⟩) fun h => h.imp (fun ⟨σ, c, hr⟩ => ⟨σ, (er_box.1 hr).2.choose, (er_box.1 hr).2.choose_spec⟩) fun ⟨r, q, hr⟩ => ⟨r, q, er_hole.1 hr⟩
  dis := m.dis
  sep := m.sep
  gsep := m.gsep
  glt := m.glt
  slt := m.slt
  same := m.same
  size := m.size
  frame := m.frame
  own := m.own
  s0 := m.s0
  shr := m.shr
  ok := m.ok

theorem er_updRts : ∀ (l : RL) (rt : Nat → RSt), (∀ p ∈ l, ∃ r, p.2 = .live r) → er (updRts l rt) = updRts l (er rt)
  | [], _, _ => rfl
  | (i, x) :: l, rt, h => by
    obtain ⟨r, hr⟩ := h (i, x) (by simp)
    simp only at hr
    subst hr
    rw [updRts, updRts, er_updRts l _ fun p hp => h p (List.mem_cons_of_mem _ hp)]
    congr 1
    funext k
    simp only [er, updRt]
    by_cases hk : k = i <;> simp [hk]

mutual
theorem unpack1_live : ∀ (τ : Ty) (d i : Nat) (x : τ.den), ∀ p ∈ (unpack1 d τ i x).2.1, ∃ r, p.2 = .live r := by
  intro τ d i x
  unfold unpack1
  cases hf : τ.flat || Nat.beq d 0 with
  | true => simp
  | false =>
    simp only [cond_false]
    cases τ with
    | list e => intro p hp; simp at hp; subst hp; exact ⟨_, rfl⟩
    | one f => exact unpack1_live f d i x
    | pair f r =>
      intro p hp
      rcases List.mem_append.1 hp with hp | hp
      · exact unpack1_live f d i x.1 p hp
      · exact unpackF_live r d _ x.2 p hp
    | _ => simp
theorem unpackF_live : ∀ (τ : Ty) (d i : Nat) (x : τ.den), ∀ p ∈ (unpackF d τ i x).2.1, ∃ r, p.2 = .live r := by
  intro τ d i x
  cases τ with
  | list e =>
    unfold unpackF
    cases Nat.beq d 0
    · intro p hp; simp at hp; subst hp; exact ⟨_, rfl⟩
    · simp
  | one f => exact unpack1_live f d i x
  | pair f r =>
    intro p hp
    rcases List.mem_append.1 hp with hp | hp
    · exact unpack1_live f d i x.1 p hp
    · exact unpackF_live r d _ x.2 p hp
  | _ => simp [unpackF]
end

theorem unpack_live : ∀ (l : List (Nat × Ty)) (i : Nat) (x : DL (l.map (·.2))), ∀ p ∈ (unpack l i x).2.1, ∃ r, p.2 = .live r
  | [], i, x, p, hp => nomatch hp
  | (d, τ) :: r, i, x, p, hp => (List.mem_append.1 hp).elim (unpack1_live τ d i _ p) (unpack_live r _ _ p)

theorem nodup_none {A B : RL} {rt : Nat → RSt} (hn : (ids (A ++ B)).Nodup) (h : ∀ k ∈ ids (A ++ B), rt k = .none) : (∀ k ∈ ids A, rt k = .none) ∧ ∀ k ∈ ids B, updRts A rt k = .none := by
  have e : ids (A ++ B) = ids A ++ ids B := by simp [ids]
  rw [e] at h hn
  refine ⟨fun k hk => h k (List.mem_append_left _ hk), fun k hk => ?_⟩
  rw [updRts_other]
  · exact h k (List.mem_append_right _ hk)
  · exact fun hc => (List.nodup_append.1 hn).2.2 k hc k hk rfl

/-- what the boxes hold -/
def Held (w : World) (S : Fp) (rv0 : Nat → Value) (its : List Item) (rt : Nat → RSt) (rv : Nat → Value) : Prop :=
  ∀ it ∈ its, ∀ σ c, it.st = .box σ c → ∃ b arr, rv0 it.id = .pointer (some ⟨b, 0, none⟩) ∧ Has w b arr ∧ BRep w S rt rv c σ arr.toList

theorem news_sound {rv0 : Nat → Value} {rt0 : Nat → RSt} : ∀ (its : List Item), (∀ it ∈ its, ItemOk w S rt0 rv0 it) → (its.Pairwise fun a c => Disj a.fp c.fp) → (ids (its.flatMap (·.new))).Nodup →
    ∀ (rt : Nat → RSt) (rv : Nat → Value) (F : Nat → Fp) (G : Fp), Mem C rt rv F S G w → (∀ b, (∃ it ∈ its, it.rest b) → G b) → (∀ k ∈ ids (its.flatMap (·.new)), rt k = .none) →
    Given C rt rv S G w (its.flatMap (·.new)) (fun b => ∃ it ∈ its, it.rest b) (Held w S rv0 its)
  | [], _, _, _, rt, rv, F, G, m, hG, h0 => Given.nil m (fun _ ⟨_, h, _⟩ => nomatch h) fun _ h => nomatch h
  | it :: its, hok, hp, hn, rt, rv, F, G, m, hG, h0 => by
    obtain ⟨hp1, hp2⟩ := List.pairwise_cons.1 hp
    rw [List.flatMap_cons] at hn h0 ⊢
    obtain ⟨n1, n2⟩ := nodup_none hn h0
    have hn' : (ids (its.flatMap (·.new))).Nodup := by
      have e : ids (it.new ++ its.flatMap (·.new)) = ids it.new ++ ids (its.flatMap (·.new)) := by simp [ids]
      rw [e] at hn
      exact (List.nodup_append.1 hn).2.1
    have head : Given C rt rv S G w it.new it.rest (Held w S rv0 [it]) := by
      rcases hok it (by simp) with ⟨r, r1, e1, e2, e3, e4, e5, e6, e7, e8⟩ | ⟨σ', c0, d, y, i, b0, arr, e0, e, e3, e4, e5, e6, e7, e8, e9⟩
      · rw [e7]
        refine Given.nil m e8 ?_
        intro it' hi' σ c hc
        simp at hi'
        subst hi'
        rw [e2] at hc; cases hc
      · rw [e3] at n1 ⊢
        obtain ⟨rv', F', G', q1, q2, q3, q4⟩ := unpack1_sound σ' d i y _ it.rest e7 rt rv F G m (fun b hb => hG b ⟨it, by simp, hb⟩) n1
        refine ⟨rv', F', G', q1, q2, q3, ?_⟩
        intro it' hi' σ c hc
        simp at hi'
        subst hi'
        rw [e] at hc; cases hc
        exact ⟨b0, arr, e4, e5.has, q4⟩
    refine Given.app head (F2 := fun b => ∃ it ∈ its, it.rest b) (fun b => by simp) ?_
    intro rt' rv' F' G' m' ert k' hg' q'
    subst ert
    obtain ⟨rv2, F2', G2, q1, q2, q3, q4⟩ := news_sound its (fun it hi => hok it (List.mem_cons_of_mem _ hi)) hp2 hn' _ rv' F' G' m'
      (fun b hb => (hg' b).2 ⟨hG b (by obtain ⟨x, hx, hb⟩ := hb; exact ⟨x, List.mem_cons_of_mem _ hx, hb⟩), fun hc => by obtain ⟨x, hx, hb⟩ := hb; exact hp1 x hx b (.inr hc) (.inr hb)⟩) n2
    refine ⟨rv2, F2', G2, q1, q2, q3, ?_⟩
    intro x hx σ c hc
    rcases List.mem_cons.1 hx with rfl | hx
    · obtain ⟨b, arr, k1, k2, k3⟩ := q' _ (by simp) σ c hc
      exact ⟨b, arr, k1, k2, BRep_keep q2 _ _ _ k3⟩
    · exact q4 x hx σ c hc

/-- Behind a call, all in all. -/
theorem call_mem (m : Mem C s.rt rv F S G w) {dead : RL} {back : List (Nat × List Step)} {lent : List Nat} {K : Nat → Fp} {Fa Sl : Fp} (t : Took w S F s.rt dead back lent K Fa Sl) {w' : World} {S' Fr Fo : Fp} (g : Went w w' S Sl Fa S' Fr Fo)
    {its : List Item} {i j k : Nat} (hi : Items w' S' s.rt rv K its back i j Fo) {res : List (Nat × Ty)} {y : DL (res.map (·.2))} {us : List Value} (hr : ResL w' S' res y us Fr)
    (hj : (unpack res k y).2.2 = i) (hfr : ∀ id ∈ ids (its.flatMap (·.new) ++ (unpack res k y).2.1), s.rt id = .none) :
    ∃ rv' F' G', Mem C (updRts (dead ++ its.map Item.own ++ (its.flatMap (·.new) ++ (unpack res k y).2.1)) s.rt) rv' F' S' G' w' ∧
      Keep w S s.rt rv w' S' (updRts (dead ++ its.map Item.own ++ (its.flatMap (·.new) ++ (unpack res k y).2.1)) s.rt) rv' ∧
      RSVs w' S' (updRts (dead ++ its.map Item.own ++ (its.flatMap (·.new) ++ (unpack res k y).2.1)) s.rt) rv' (unpack res k y).1 us := by
  obtain ⟨m2, k2⟩ := back_mem m t g hi
  have hids : ids (dead ++ its.map Item.own) = idsOf dead back := by
    unfold idsOf
    rw [← hi.ids]; simp [ids, Item.own, Function.comp_def]
  have hnd : (ids (dead ++ its.map Item.own)).Nodup := by rw [hids]; exact t.nodup
  have hsome : ∀ id ∈ idsOf dead back, s.rt id ≠ .none := by
    intro id hid
    rcases List.mem_append.1 hid with h | h
    · obtain ⟨st, h⟩ := mem_ids.1 h
      obtain ⟨r, hr, _⟩ := t.takes id st h
      rw [hr]; simp
    · rcases t.backs id h with ⟨r, hr⟩ | ⟨σ, c, hr⟩ <;> rw [hr] <;> simp
  obtain ⟨r1, r2⟩ := unpack_ids res k y
  rw [hj] at r1 r2
  have hnn : (ids (its.flatMap (·.new) ++ (unpack res k y).2.1)).Nodup := by
    have e : ids (its.flatMap (·.new) ++ (unpack res k y).2.1) = ids (its.flatMap (·.new)) ++ ids (unpack res k y).2.1 := by simp [ids]
    rw [e, hi.news.1, r1]
    refine List.nodup_append.2 ⟨List.nodup_range', List.nodup_range', fun a ha c hc e => ?_⟩
    simp [List.mem_range'] at ha hc
    omega
  have hn2 : ∀ id ∈ ids (its.flatMap (·.new) ++ (unpack res k y).2.1), er (updRts (dead ++ its.map Item.own) s.rt) id = .none := by
    intro id hid
    rw [er_none, updRts_other]
    · exact hfr id hid
    · rw [hids]; exact fun hc => hsome id hc (hfr id hid)
  obtain ⟨n1, n2⟩ := nodup_none hnn hn2
  have hnn1 : (ids (its.flatMap (·.new))).Nodup := by rw [hi.news.1]; exact List.nodup_range'
  have both : Given C (er (updRts (dead ++ its.map Item.own) s.rt)) rv S' (fun b => (∃ it ∈ its, it.rest b) ∨ Fr b) w' (its.flatMap (·.new) ++ (unpack res k y).2.1) (fun b => (∃ it ∈ its, it.rest b) ∨ Fr b)
      (fun rt' rv' => Held w' S' rv its rt' rv' ∧ RSVs w' S' rt' rv' (unpack res k y).1 us) := by
    refine Given.app (news_sound its hi.ok hi.apart hnn1 _ rv _ _ m2 (fun b hb => .inl hb) n1) (fun b => Iff.rfl) ?_
    intro rt' rv' F' G' m' ert k' hg' q'
    subst ert
    obtain ⟨rv2, F2', G2, q1, q2, q3, q4⟩ := unpack_sound res k y us Fr hr _ rv' F' G' m' (fun b hb => (hg' b).2 ⟨.inr hb, fun ⟨it, hit, hc⟩ => g.h5 b hb (hi.rest it hit b hc)⟩) n2
    refine ⟨rv2, F2', G2, q1, q2, q3, ?_, q4⟩
    intro x hx σ c hc
    obtain ⟨b, arr, k1, k2, k3⟩ := q' x hx σ c hc
    exact ⟨b, arr, k1, k2, BRep_keep q2 _ _ _ k3⟩
  obtain ⟨rv', F', G', q1, q2, q3, q4, q5⟩ := both
  have hlive : ∀ p ∈ its.flatMap (·.new) ++ (unpack res k y).2.1, ∃ r, p.2 = .live r := by
    intro p hp
    rcases List.mem_append.1 hp with hp | hp
    · obtain ⟨it, hit, hp⟩ := List.mem_flatMap.1 hp
      rcases hi.ok it hit with ⟨r, r1, e1, e2, e3, e4, e5, e6, e7, e8⟩ | ⟨σ', c0, d, y, i, b0, arr, e0, e, e3, _⟩
      · rw [e7] at hp; cases hp
      · rw [e3] at hp; exact unpack1_live _ _ _ _ p hp
    · exact unpack_live _ _ _ p hp
  have hrt : er (updRts (dead ++ its.map Item.own ++ (its.flatMap (·.new) ++ (unpack res k y).2.1)) s.rt) = updRts (its.flatMap (·.new) ++ (unpack res k y).2.1) (er (updRts (dead ++ its.map Item.own) s.rt)) := by
    rw [updRts_app, er_updRts _ _ hlive]
  have K := k2.trans q2
  rw [← hrt] at q1 K q4 q5
  have K' := Keep.er w' S' (updRts (dead ++ its.map Item.own ++ (its.flatMap (·.new) ++ (unpack res k y).2.1)) s.rt) rv'
  refine ⟨rv', F', G', Mem.fill q1 ?_, K.trans K', RSVs_keep K' _ _ q5⟩
  intro id σ c hc
  by_cases h1 : id ∈ ids (its.flatMap (·.new) ++ (unpack res k y).2.1)
  · exfalso
    obtain ⟨st, hst⟩ := mem_ids.1 h1
    rw [updRts_app, updRts_mem _ _ id st hnn hst] at hc
    obtain ⟨r, hr⟩ := hlive _ hst
    simp only at hr
    rw [hr] at hc; cases hc
  · rw [updRts_app, updRts_other _ _ id h1] at hc
    by_cases h2 : id ∈ ids (dead ++ its.map Item.own)
    · obtain ⟨st, hst⟩ := mem_ids.1 h2
      rw [updRts_mem _ _ id st hnd hst] at hc
      subst hc
      rcases List.mem_append.1 hst with hst | hst
      · exfalso
        obtain ⟨r, _, hd⟩ := t.takes id _ hst
        rcases hd with hd | hd <;> cases hd
      · obtain ⟨it, hit, e⟩ := List.mem_map.1 hst
        simp only [Item.own, Prod.mk.injEq] at e
        obtain ⟨rfl, e⟩ := e
        obtain ⟨b, arr, k1, k3, k4⟩ := q4 it hit σ c e
        refine ⟨b, arr, ?_, k3, BRep_keep K' _ _ _ k4⟩
        rw [K.krv it.id (hsome _ (by rw [← hids]; exact h2))]
        exact k1
    · rw [updRts_other _ _ id h2] at hc
      rw [hids] at h2
      obtain ⟨b, arr, z1, z2, z3, z4, z6⟩ := m.box id σ c hc
      refine ⟨b, arr, ?_, ?_, BRep_keep (K.trans K') _ _ _ z6⟩
      · rw [K.krv id (by rw [hc]; simp)]; exact z1
      · refine z2.has.of_eq (g.hw b (m.lt ((z4 b).2 rfl)) fun hf => ?_)
        obtain ⟨i', hi', hb'⟩ := t.fa b hf
        have := m.dis id i' b ((z4 b).2 rfl) hb'
        subst this
        exact h2 hi'
end
end Go.Abs
set_option linter.unusedVariables false
set_option linter.unusedSimpArgs false
set_option linter.unnecessarySimpa false
set_option linter.unusedSectionVars false
namespace Go.Abs
open Go

def retV : List Value → Value
  | [v] => v
  | us => .tuple us.toArray

theorem gl_mono {P : Program} : ∀ (w w' : World) (S S' : Fp), Gl P w S → (∀ b, S b → S' b) → (∀ b, S b → w'.heap[b]? = w.heap[b]?) → Gl P w' S' := by
  intro w w' S S' h h1 h2 g hg
  obtain ⟨k1, k2⟩ := h g hg
  refine ⟨h1 g k1, ?_⟩
  rw [← k2]
  unfold World.var?
  rw [hg, Option.bind_some, Option.bind_some, h2 g k1]
/-- What a call of a function does, told by a contract. -/
def Keeps (P : Program) (f : FuncId) (s : Sum) : Prop :=
  ∀ (n : Nat) (w : World) (args : List Value) (x : DL s.pars.ins) (y : DL (s.res.map (·.2) ++ s.pars.outs)) (S Fa : Fp),
    s.run n x = some y → ArgL w S s.pars x args Fa → (∀ b, Fa b → ¬ S b) → (∀ b, S b → b < w.heap.size) → (∀ b, Fa b → b < w.heap.size) → Gl P w S →
    Calls P f args.toArray w fun e w' => ∃ us S' Fr Fo, e = .returned (retV us) ∧ Went w w' S (fun _ => False) Fa S' Fr Fo ∧ ResL w' S' s.res (DL.left y) us Fr ∧ ArgL w' S' s.pars.outTop (DL.right y) args Fo

def Meets (P : Program) (f : FuncId) (s : Sum) : Prop :=
  (∃ fn c, P.funcs[f]? = some fn ∧ (fn.name == "runtime.NumGoroutine") = false ∧ fn.body = some c) ∧ Keeps P f s

def EnvSum (P : Program) (E : Env) : Prop := ∀ f fs s, E.sum f fs = some s → Meets P f s

theorem run_callFunc {P : Program} {f : FuncId} {fn : Func} {c : Code} (hf : P.funcs[f]? = some fn) (hname : (fn.name == "runtime.NumGoroutine") = false) (hb : fn.body = some c) (args : Array Value) (w : World) :
    (callFunc f args).run P w = .ok (.enter f args) w := by
  have h1 : fn.name ≠ "runtime.NumGoroutine" := by simpa using hname
  simp [callFunc, hf, h1, hb]

theorem ResL_deep {w : World} {S S' : Fp} : ∀ {res : List (Nat × Ty)} {y : DL (res.map (·.2))} {us : List Value} {F : Fp}, deepRes res = true → ResL w S res y us F → ResL w S' res y us F
  | [], _, _, _, _, h => h
  | (d, τ) :: r, y, us, F, k, h => by
    simp only [deepRes, Bool.and_eq_true] at k
    obtain ⟨cs, us', F1, F2, h1, h2, h3, h4, h5⟩ := h
    exact ⟨cs, us', F1, F2, h1, rep_deep (Nat.le_of_ble_eq_true k.1) h2, ResL_deep k.2 h3, h4, h5⟩

mutual
theorem ArgG_deep {w : World} {S S' : Fp} : ∀ {p : Par} {y : DL p.outAgg.ins} {v : Value} {F : Fp}, deepOut p = true → Arg w S p.outAgg y v F → Arg w S' p.outAgg y v F
  | .io d τ, y, v, F, k, h => by
    simp only [Par.outAgg, Arg] at h ⊢
    have := Nat.le_of_ble_eq_true k
    exact rep_deep (by simp only [Ty.deep]; omega) h
  | .box d τ, y, v, F, k, h => by
    simp only [Par.outAgg, Arg] at h ⊢
    obtain ⟨b, arr, F', h1, h2, h3, h4, h5⟩ := h
    exact ⟨b, arr, F', h1, h2, h3, rep_deep (Nat.le_of_ble_eq_true k) h4, h5⟩
  | .fn f p, y, v, F, k, h => by simp [Par.outAgg, Arg] at h
  | .agg p, y, v, F, k, h => by
    simp only [Par.outAgg, Arg] at h ⊢
    obtain ⟨us, h1, h2⟩ := h
    exact ⟨us, h1, ArgGL_deep k h2⟩
  | .val _, y, v, F, k, h | .own _ _, y, v, F, k, h | .any _, y, v, F, k, h | .skip, y, v, F, k, h => by simp only [Par.outAgg, Arg] at h ⊢; exact h
  | .nil, y, v, F, k, h => by simp [Par.outAgg, Arg] at h
  | .cons _ _, y, v, F, k, h => by simp [Par.outAgg, Arg] at h
theorem ArgGL_deep {w : World} {S S' : Fp} : ∀ {p : Par} {y : DL p.outAgg.ins} {us : List Value} {F : Fp}, deepOut p = true → ArgL w S p.outAgg y us F → ArgL w S' p.outAgg y us F
  | .nil, y, us, F, k, h => by simp only [Par.outAgg, ArgL] at h ⊢; exact h
  | .cons a b, y, us, F, k, h => by
    simp only [deepOut, Bool.and_eq_true] at k
    simp only [Par.outAgg, ArgL] at h ⊢
    obtain ⟨u, us', F1, F2, h1, h2, h3, h4, h5⟩ := h
    exact ⟨u, us', F1, F2, h1, ArgG_deep k.1 h2, ArgGL_deep k.2 h3, h4, h5⟩
  | .val _, y, us, F, k, h | .own _ _, y, us, F, k, h | .io _ _, y, us, F, k, h | .box _ _, y, us, F, k, h | .agg _, y, us, F, k, h | .any _, y, us, F, k, h | .skip, y, us, F, k, h => by simp [Par.outAgg, ArgL] at h
  | .fn _ _, y, us, F, k, h => by simp only [Par.outAgg, ArgL] at h ⊢; exact h
end

mutual
theorem ArgP_deep {w : World} {S S' : Fp} : ∀ {p : Par} {y : DL p.outTop.ins} {v : Value} {F : Fp}, deepOut p = true → Arg w S p.outTop y v F → Arg w S' p.outTop y v F
  | .io d τ, y, v, F, k, h => by
    simp only [Par.outTop, Arg] at h ⊢
    have := Nat.le_of_ble_eq_true k
    exact rep_deep (by simp only [Ty.deep]; omega) h
  | .box d τ, y, v, F, k, h => by
    simp only [Par.outTop, Arg] at h ⊢
    obtain ⟨b, arr, F', h1, h2, h3, h4, h5⟩ := h
    exact ⟨b, arr, F', h1, h2, h3, rep_deep (Nat.le_of_ble_eq_true k) h4, h5⟩
  | .fn f p, y, v, F, k, h => by
    cases ho : p.hasOut with
    | true =>
      have e : (Par.fn f p).outTop = .fn f p.outTop := by simp [Par.outTop, ho]
      revert y
      rw [e]
      intro y h
      simp only [Arg] at h ⊢
      obtain ⟨us, h1, h2⟩ := h
      exact ⟨us, h1, ArgL_deep (p := p) k h2⟩
    | false =>
      have e : (Par.fn f p).outTop = .skip := by simp [Par.outTop, ho]
      revert y
      rw [e]
      intro y h
      simp only [Arg] at h ⊢
      exact h
  | .agg p, y, v, F, k, h => by
    cases ho : p.hasOut with
    | true =>
      have e : (Par.agg p).outTop = .agg p.outAgg := by simp [Par.outTop, ho]
      revert y
      rw [e]
      intro y h
      simp only [Arg] at h ⊢
      obtain ⟨us, h1, h2⟩ := h
      exact ⟨us, h1, ArgGL_deep (p := p) k h2⟩
    | false =>
      have e : (Par.agg p).outTop = .skip := by simp [Par.outTop, ho]
      revert y
      rw [e]
      intro y h
      simp only [Arg] at h ⊢
      exact h
  | .val _, y, v, F, k, h | .own _ _, y, v, F, k, h | .any _, y, v, F, k, h | .skip, y, v, F, k, h => by simp only [Par.outTop, Arg] at h ⊢; exact h
  | .nil, y, v, F, k, h => by simp [Par.outTop, Arg] at h
  | .cons _ _, y, v, F, k, h => by simp [Par.outTop, Arg] at h
theorem ArgL_deep {w : World} {S S' : Fp} : ∀ {p : Par} {y : DL p.outTop.ins} {us : List Value} {F : Fp}, deepOut p = true → ArgL w S p.outTop y us F → ArgL w S' p.outTop y us F
  | .nil, y, us, F, k, h => by simp only [Par.outTop, ArgL] at h ⊢; exact h
  | .cons a b, y, us, F, k, h => by
    simp only [deepOut, Bool.and_eq_true] at k
    simp only [Par.outTop, ArgL] at h ⊢
    obtain ⟨u, us', F1, F2, h1, h2, h3, h4, h5⟩ := h
    exact ⟨u, us', F1, F2, h1, ArgP_deep k.1 h2, ArgL_deep k.2 h3, h4, h5⟩
  | .fn f p, y, us, F, k, h => by
    exfalso
    cases ho : p.hasOut with
    | true =>
      have e : (Par.fn f p).outTop = .fn f p.outTop := by simp [Par.outTop, ho]
      revert y
      rw [e]
      intro y h
      simp [ArgL] at h
    | false =>
      have e : (Par.fn f p).outTop = .skip := by simp [Par.outTop, ho]
      revert y
      rw [e]
      intro y h
      simp [ArgL] at h
  | .agg p, y, us, F, k, h => by
    exfalso
    cases ho : p.hasOut with
    | true =>
      have e : (Par.agg p).outTop = .agg p.outAgg := by simp [Par.outTop, ho]
      revert y
      rw [e]
      intro y h
      simp [ArgL] at h
    | false =>
      have e : (Par.agg p).outTop = .skip := by simp [Par.outTop, ho]
      revert y
      rw [e]
      intro y h
      simp [ArgL] at h
  | .val _, y, us, F, k, h | .own _ _, y, us, F, k, h | .io _ _, y, us, F, k, h | .box _ _, y, us, F, k, h | .any _, y, us, F, k, h | .skip, y, us, F, k, h => by simp [Par.outTop, ArgL] at h
end

section
variable {C : Ctx} {s : St} {rv : Nat → Value} {F : Nat → Fp} {S G : Fp} {w : World} {P : Program} {E : Env} {a : Act}

theorem allFresh_some {α : Type} : ∀ {r : RL} {k : Rd α} {l : List Nat} {q : α × List Nat}, (allFresh r k).run s l = some q → (∀ id ∈ ids r, s.rt id = .none) ∧ ∃ l1, k.run s l1 = some q
  | [], k, l, q, h => ⟨(fun _ h => nomatch h), l, h⟩
  | (i, x) :: r, k, l, q, h => by
    simp only [allFresh, Rd.run] at h
    cases hr : s.rt i <;> simp only [hr] at h <;> try exact (fail_some h).elim
    obtain ⟨h1, h2⟩ := allFresh_some h
    refine ⟨fun id hid => ?_, h2⟩
    simp only [ids, List.map_cons] at hid
    rcases List.mem_cons.1 hid with rfl | hid
    · exact hr
    · exact h1 id hid

theorem callF_sound (hE : EnvSum P E) (hC : C.gl = Gl P) (m : Mem C s.rt rv F S G w) {n d : Nat} {f : FuncId} {vs : List SV} {us : List Value} {e : Eff} {l l' : List Nat} (h : (callF E n d f vs).run s l = some (e, l'))
    (hv : RSVs w S s.rt rv vs us) : (callFunc f us.toArray).run P w = .ok (.enter f us.toArray) w ∧ Calls P f us.toArray w fun e' w' => ∃ v, e' = .returned v ∧ Post C s rv w S e v w' := by
  unfold callF at h
  cases hs : E.sum f (fnsOf vs) with
  | none => rw [hs] at h; exact (fail_some h).elim
  | some sm =>
    rw [hs] at h
    obtain ⟨⟨fn, c, g1, g2, g3⟩, hm⟩ := hE _ _ _ hs
    refine ⟨run_callFunc g1 g2 g3 _ _, ?_⟩
    simp only at h
    obtain ⟨t, l1, h1, h2⟩ := run_bind_some h
    obtain ⟨h3, h4⟩ := chk_some h2
    simp only [Rd.run] at h4
    obtain ⟨y, hy, h5⟩ := Option.bind_eq_some_iff.1 h4
    obtain ⟨⟨mm, nw, bs', j⟩, l2, h6, h7⟩ := run_bind_some h5
    obtain ⟨h8, l3, h9⟩ := allFresh_some h7
    have := ret_some h9; cases this
    obtain ⟨Fa, Sl, K, t1, t2, hb, _⟩ := takeL_sound m sm.pars vs _ _ t us h1 hv
    have hFlt : ∀ b, Fa b → b < w.heap.size := fun b hb => by obtain ⟨i, _, hi⟩ := t1.fa b hb; exact m.lt hi
    have hSl : ∀ b, Sl b → b < w.heap.size := fun b hb => by obtain ⟨i, _, hi⟩ := t1.sl b hb; exact m.lt hi
    refine Calls.mono (hm n w us t.x y _ Fa hy t2 ?_ ?_ hFlt ?gl) ?_
    case gl => exact gl_mono _ _ _ _ (hC ▸ m.glob) (fun _ h => .inl h) (fun _ _ => rfl)
    · intro b hb hc
      obtain ⟨i, hi, hbi⟩ := t1.fa b hb
      rcases hc with hc | hc | ⟨j, hj, hc⟩
      · exact (m.sep i b hbi).1 hc
      · exact t1.apart b hb hc
      · exact t1.lentA b hb j hj hc
    · rintro b (hc | hc | ⟨j, hj, hc⟩)
      · exact m.slt b hc
      · exact hSl b hc
      · exact m.lt hc
    · rintro e' w' ⟨rs, S', Fr, Fo, rfl, g, hr, ho⟩
      refine ⟨_, rfl, ?_⟩
      have main : ∃ S'', Went w w' S Sl Fa S'' Fr Fo ∧ ResL w' S'' sm.res (DL.left y) rs Fr ∧ ArgL w' S'' sm.pars.outTop (DL.right y) us Fo := by
        rcases Bool.or_eq_true_iff.1 h3 with h3 | h3
        · have hl : t.lent = [] := by simpa using h3
          refine ⟨S', ⟨g.hw, g.hsz, g.hsame, fun b hb => g.h1 b (.inl (hb.imp (fun h => h) .inl)), fun b hb => ?_, g.h3, g.h4, g.h5⟩, hr, ho⟩
          rcases g.h2 b hb with (h | h | ⟨i, hi, h⟩) | h | h | h
          · exact .inl h
          · exact .inr (.inl h)
          · rw [hl] at hi; cases hi
          · exact h.elim
          · exact .inr (.inr (.inl h))
          · exact .inr (.inr (.inr h))
        · rw [Bool.and_eq_true] at h3
          refine ⟨fun b => S b ∨ Sl b, ⟨g.hw, g.hsz, g.hsame, fun b hb => hb, fun b hb => hb.imp (fun h => h) .inl, fun b hb => ?_, fun b hb => ?_, g.h5⟩, ResL_deep h3.1 hr, ArgL_deep h3.2 ho⟩
          · exact Nat.lt_of_lt_of_le (hb.elim (m.slt b) (hSl b)) g.hsz
          · obtain ⟨z1, z2, z3⟩ := g.h4 b hb
            exact ⟨z1, fun hc => z2 (g.h1 b (.inl (hc.imp (fun h => h) .inl))), z3⟩
      obtain ⟨S'', g', hr', ho'⟩ := main
      have h6' : (putBack sm.pars.outTop (unpack sm.res (32 * d) (DL.left y)).2.2 (DL.right y) (t.back ++ [])).run s l1 = some ((mm, nw, bs', j), l2) := by rw [List.append_nil]; exact h6
      have hkeep : KeepOk w w' S S'' K Fo := by
        refine ⟨fun b hb => g'.h1 b (.inl hb), fun b hb => g'.hw b (m.slt b hb) fun hc => ?_, fun i b hb => g'.hw b (m.lt (t1.kp i b hb).2.1) (t1.kp i b hb).2.2, fun i j b hi hj => m.dis i j b (t1.kp i b hi).2.1 (t1.kp j b hj).2.1, fun i b hb hc => ?_⟩
        · obtain ⟨i, _, hi⟩ := t1.fa b hc
          exact (m.sep i b hi).1 hb
        · rcases (g'.h4 b (.inr hc)).1 with h | h
          · exact (t1.kp i b hb).2.2 h
          · have := m.lt (t1.kp i b hb).2.1; omega
      obtain ⟨_, its, rfl, rfl, hi⟩ := backL_items sm.pars.outTop _ (DL.right y) t.back [] us Fo _ _ mm nw bs' j hb ho' hkeep (List.nodup_append.1 t1.nodup).2.1 h6'
      obtain ⟨rv', F', G', q1, q2, q3⟩ := call_mem m t1 g' hi hr' rfl fun id hid => h8 id (by
        simp only [ids, List.map_append, List.mem_append] at hid ⊢
        exact hid.symm)
      refine Post.mk (putRs_rt _ _) q1 q2 ?_
      generalize unpack sm.res (32 * d) (DL.left y) = un at q3
      obtain ⟨ws, r1, r2⟩ := un
      simp only at q3 ⊢
      match ws, rs, q3 with
      | [], us, q3 => simp only [RSVs] at q3; subst q3; simp only [RSV, RSVs, retV]; exact ⟨[], rfl, rfl⟩
      | [v], us, q3 =>
        simp only [RSVs] at q3
        obtain ⟨u, us', rfl, q4, rfl⟩ := q3
        exact q4
      | v1 :: v2 :: ws, us, q3 =>
        have q3' := q3
        simp only [RSVs] at q3
        obtain ⟨u, us', rfl, _, u2, us2, rfl, _, _⟩ := q3
        simp only [RSV, retV]
        exact ⟨_, q3', rfl⟩

/-- A call through a function value. -/
theorem op_call (hC : C.gl = Gl P) (m : Mem C s.rt rv F S G w) (hs : ∀ i, RSV w S s.rt rv (s.sl i) (a.tmps.getD i undef)) (hE : EnvSum P E) {n d : Nat} {o : Oper} {c : Call} {g : Operand} (ho : o.op = .call c) (hc : c.callee = .value g)
    {e : Eff} {l l' : List Nat} (h : (op E n d (.call c)).run s l = some (e, l')) : Does P o a w (Post C s rv w S e) := by
  simp only [op, hc] at h
  obtain ⟨u, l1, h1, h2⟩ := run_bind_some h
  have hu := opd_sound hs h1
  split at h2
  · rename_i f caps
    obtain ⟨vs, l2, h3, h4⟩ := run_bind_some h2
    have hvs := opList_sound hs h3
    simp only [RSV] at hu
    obtain ⟨us, q1, q2⟩ := hu
    obtain ⟨k1, k2⟩ := callF_sound hE hC m h4 (RSVs_app hvs q1)
    refine .inr (.inr ⟨f, _, w, ?_, k2⟩)
    have e1 : c.args.map a.eval ++ us.toArray = (c.args.toList.map a.eval ++ us).toArray := by
      apply Array.ext'; simp
    simp only [execOp, ho, resolve, hc, q2, Deferred.ofValue]
    simpa [invoke, e1] using k1
  · exact (fail_some h2).elim
end
end Go.Abs
set_option linter.unusedVariables false
set_option linter.unusedSimpArgs false
set_option linter.unnecessarySimpa false
set_option linter.unusedSectionVars false
namespace Go.Abs
open Go

/-! ### A struct that is built -/

def Fits : Ty → List Value → Prop
  | .one f, us => ∃ u, us = [u] ∧ u.cells.toList.length = f.size
  | .pair f r, us => ∃ u us', us = u :: us' ∧ u.cells.toList.length = f.size ∧ Fits r us'
  | _, _ => False

def flatL (us : List Value) : List Value := us.flatMap fun u : Value => u.cells.toList

theorem Fits.len : ∀ {σ : Ty} {us : List Value}, Fits σ us → (flatL us).length = σ.size
  | .one f, us, h => by obtain ⟨u, rfl, h⟩ := h; simpa [flatL, Ty.size] using h
  | .pair f r, us, h => by
    obtain ⟨u, us', rfl, h1, h2⟩ := h
    have := Fits.len h2
    simp only [flatL] at this
    simp only [flatL, List.flatMap_cons, List.length_append, this, h1, Ty.size]
  | .int _, _, h | .bool, _, h | .str, _, h | .list _, _, h => h.elim

theorem ovr_list {c : List Value} {o : Nat} {vs : List Value} (h : o + vs.length ≤ c.length) : (ovr c.toArray o vs).toList = c.take o ++ vs ++ c.drop (o + vs.length) := by
  apply List.ext_getElem?
  intro i
  rw [Array.getElem?_toList, ovr_get vs _ _ _ (by simpa using h)]
  have h1 : (c.take o).length = o := by simp; omega
  by_cases hi : i < o
  · rw [if_neg (by omega), List.append_assoc, List.getElem?_append_left (by omega), List.getElem?_take_of_lt hi]; simp
  · by_cases hj : i < o + vs.length
    · rw [if_pos (by omega), List.append_assoc, List.getElem?_append_right (by omega), List.getElem?_append_left (by omega), h1]
    · rw [if_neg (by omega), List.append_assoc, List.getElem?_append_right (by omega), List.getElem?_append_right (by omega), List.getElem?_drop, h1]
      simp
      congr 1; omega

theorem Fits.set : ∀ {σ : Ty} {us : List Value} {k : Nat} {f : Ty} {δ : Nat} {v : Value}, Fits σ us → σ.fldOff k = some (f, δ) → v.cells.toList.length = f.size →
    Fits σ (us.set k v) ∧ flatL (us.set k v) = (ovr (flatL us).toArray δ v.cells.toList).toList ∧ δ + f.size ≤ (flatL us).length
  | .one g, us, k, f, δ, v, h, hk, hv => by
    obtain ⟨u, rfl, h⟩ := h
    cases k with
    | succ k => simp [Ty.fldOff] at hk
    | zero =>
      simp [Ty.fldOff] at hk
      obtain ⟨rfl, rfl⟩ := hk
      have e : flatL [u] = u.cells.toList := by simp [flatL]
      refine ⟨⟨v, rfl, hv⟩, ?_, by rw [e]; omega⟩
      rw [e, ovr_list (by omega)]
      simp only [List.set_cons_zero, flatL, List.flatMap_cons, List.flatMap_nil, List.append_nil, List.take_zero, List.nil_append, Nat.zero_add, hv, ← h, List.drop_length]
  | .pair g r, us, k, f, δ, v, h, hk, hv => by
    obtain ⟨u, us', rfl, h, h2⟩ := h
    have e : flatL (u :: us') = u.cells.toList ++ flatL us' := by simp [flatL]
    cases k with
    | zero =>
      simp [Ty.fldOff] at hk
      obtain ⟨rfl, rfl⟩ := hk
      refine ⟨⟨v, us', rfl, hv, h2⟩, ?_, by rw [e, List.length_append]; omega⟩
      rw [e, ovr_list (by rw [List.length_append]; omega)]
      rw [show 0 + v.cells.toList.length = u.cells.toList.length by omega, List.drop_left]
      simp [flatL]
    | succ k =>
      simp only [Ty.fldOff, Option.map_eq_some_iff] at hk
      obtain ⟨⟨f', δ'⟩, hk, e2⟩ := hk
      simp at e2
      obtain ⟨rfl, rfl⟩ := e2
      obtain ⟨g1, g2, g3⟩ := Fits.set h2 hk hv
      refine ⟨⟨u, us'.set k v, rfl, h, g1⟩, ?_, by rw [e, List.length_append]; omega⟩
      have e3 : flatL ((u :: us').set (k + 1) v) = u.cells.toList ++ flatL (us'.set k v) := by simp [flatL]
      rw [e3, g2, e, ovr_list (by omega), ovr_list (by rw [List.length_append]; omega)]
      rw [← h, List.take_length_add_append, List.append_assoc, List.append_assoc, List.append_assoc, Nat.add_assoc, List.drop_length_add_append]
  | .int _, _, _, _, _, _, h, _, _ | .bool, _, _, _, _, _, h, _, _ | .str, _, _, _, _, _, h, _, _ | .list _, _, _, _, _, _, h, _, _ => h.elim

theorem FOk.places {P : Program} : ∀ {σ : Ty} {fs : List Field} {o : Nat}, FOk P fs o σ →
    ∃ pl, fs.mapM (fun f => (P.info? f.type).map fun i => (f.offset, i.size)) = some pl ∧ ∀ k f δ, σ.fldOff k = some (f, δ) → pl[k]? = some (o + δ, f.size)
  | .one a, fs, o, h => by
    cases h with
    | one h1 h2 =>
      obtain ⟨i, z, hi⟩ := h2.inf
      refine ⟨[(o, a.size)], by simp [hi.info, hi.size, h1], fun k f δ hk => ?_⟩
      cases k with
      | zero => simp [Ty.fldOff] at hk; obtain ⟨rfl, rfl⟩ := hk; rfl
      | succ k => simp [Ty.fldOff] at hk
  | .pair a r, fs, o, h => by
    cases h with
    | pair h1 h2 h3 =>
      obtain ⟨i, z, hi⟩ := h2.inf
      obtain ⟨pl, g1, g2⟩ := FOk.places h3
      refine ⟨(o, a.size) :: pl, by simp [hi.info, hi.size, h1, g1], fun k f δ hk => ?_⟩
      cases k with
      | zero => simp [Ty.fldOff] at hk; obtain ⟨rfl, rfl⟩ := hk; rfl
      | succ k =>
        simp only [Ty.fldOff, Option.map_eq_some_iff] at hk
        obtain ⟨⟨f', δ'⟩, hk, e2⟩ := hk
        simp at e2
        obtain ⟨rfl, rfl⟩ := e2
        have := g2 k f' δ' hk
        simp only [List.getElem?_cons_succ]
        rw [this, Nat.add_assoc]
  | .int _, _, _, h | .bool, _, _, h | .str, _, _, h | .list _, _, _, h => by cases h

section
variable {C : Ctx} {s : St} {rv : Nat → Value} {F : Nat → Fp} {S G : Fp} {w : World} {P : Program} {E : Env} {a : Act}

/-- fields to the end -/
theorem FOk.chain {P : Program} : ∀ {τ : Ty} {fs : List Field} {o : Nat}, FOk P fs o τ → τ.chain = true
  | .one _, _, _, _ => rfl
  | .pair _ r, _, _, h => by cases h with | pair _ _ h => exact FOk.chain (τ := r) h
  | .int _, _, _, h | .bool, _, _, h | .str, _, _, h | .list _, _, _, h => by cases h
theorem arrT_chain : ∀ {n : Nat} {e τ : Ty}, arrT n e = some τ → τ.chain = true
  | 1, e, τ, h => by simp [arrT] at h; subst h; rfl
  | n + 2, e, τ, h => by
    simp only [arrT, Option.map_eq_some_iff] at h
    obtain ⟨r, hr, rfl⟩ := h
    exact arrT_chain (n := n + 1) (τ := r) hr

theorem zeroV_rsv {rt : Nat → RSt} : ∀ {f : Ty} {cs : List Value}, zeroOk f cs = true → RSV w S rt rv (zeroV f) (f.wrap cs)
  | .list e, cs, h => by
    unfold zeroOk at h
    split at h
    · simp only [zeroV, RSV]; exact ⟨none, rfl⟩
    · cases h
  | .int _, cs, h | .bool, cs, h | .str, cs, h | .one _, cs, h | .pair _ _, cs, h => by simp only [zeroV, RSV]; exact ⟨cs, zero_rep h, rfl⟩

theorem zeroFs_sound {rt : Nat → RSt} : ∀ {σ : Ty} {cs : List Value}, σ.chain = true → zeroOk σ cs = true → ∃ us, RSVs w S rt rv (zeroFs σ) us ∧ Fits σ us ∧ flatL us = cs
  | .one f, cs, _, h => by
    have hr : rep w S f 0 f.dflt cs (fun _ => False) := zero_rep h
    refine ⟨[f.wrap cs], ?_, ⟨_, rfl, ?_⟩, ?_⟩
    · simp only [zeroFs, RSVs]; exact ⟨_, [], rfl, zeroV_rsv h, rfl⟩
    · rw [wrap_cells hr]; exact rep_len hr
    · simp [flatL, wrap_cells hr]
  | .pair f r, cs, hf, h => by
    simp only [zeroOk, Bool.and_eq_true] at h
    have hr : rep w S f 0 f.dflt (cs.take f.size) (fun _ => False) := zero_rep h.1
    obtain ⟨us, g1, g2, g3⟩ := zeroFs_sound (rt := rt) (σ := r) hf h.2
    refine ⟨f.wrap (cs.take f.size) :: us, ?_, ⟨_, us, rfl, ?_, g2⟩, ?_⟩
    · simp only [zeroFs, RSVs]; exact ⟨_, us, rfl, zeroV_rsv h.1, g1⟩
    · rw [wrap_cells hr]; exact rep_len hr
    · simp only [flatL, List.flatMap_cons] at g3 ⊢
      rw [g3]
      have := wrap_cells hr
      rw [this, List.take_append_drop]
  | .int _, _, h, _ | .bool, _, h, _ | .str, _, h, _ | .list _, _, h, _ => by simp [Ty.chain] at h

theorem fill_ovr {place : Nat → Option (Nat × Nat)} {c : Array Value} {k δ n : Nat} {v : Value} {rest : List (Nat × Value)} (hp : place k = some (δ, n)) (hv : v.cells.toList.length = n) (hc : δ + n ≤ c.size) :
    Instr.fill place c ((k, v) :: rest) = Instr.fill place (ovr c δ v.cells.toList) rest := by
  have hfold : ∀ (vs : List Value) (j o : Nat) (c : Array Value), (vs.zipIdx j).foldl (fun cs p => cs.setIfInBounds (o + p.2) p.1) c = ovr c (o + j) vs := by
    intro vs
    induction vs with
    | nil => intro j o c; rfl
    | cons v vs ih => intro j o c; simp only [List.zipIdx_cons, List.foldl_cons, ovr]; rw [ih]; rfl
  have hu' : v.cells.size = n := by simpa using hv
  have hcond : (v.cells.size ≠ n || decide (δ + v.cells.size > c.size)) = false := by simp [hu']; omega
  have hz : v.cells.zipIdx.foldl (fun cs x => cs.setIfInBounds (δ + x.2) x.1) c = ovr c δ v.cells.toList := by
    have := hfold v.cells.toList 0 δ c
    rw [← Array.foldl_toList]
    simpa using this
  simp only [Instr.fill, hp, hcond, Bool.false_eq_true, if_false]
  show Instr.fill place (v.cells.zipIdx.foldl (fun cs x => cs.setIfInBounds (δ + x.2) x.1) c) rest = _
  rw [hz]

theorem RSVs_set {rt : Nat → RSt} {v : SV} {u : Value} (h : RSV w S rt rv v u) : ∀ {vs : List SV} {us : List Value} {k : Nat}, RSVs w S rt rv vs us → RSVs w S rt rv (vs.set k v) (us.set k u)
  | [], us, k, hs => by simp only [RSVs] at hs; subst hs; simp [RSVs]
  | x :: vs, us, k, hs => by
    simp only [RSVs] at hs
    obtain ⟨y, us', rfl, h1, h2⟩ := hs
    cases k with
    | zero => simp only [List.set_cons_zero, RSVs]; exact ⟨u, us', rfl, h, h2⟩
    | succ k => simp only [List.set_cons_succ, RSVs]; exact ⟨y, us'.set k u, rfl, h1, RSVs_set h h2⟩

theorem partsF_sound (m : Mem C s.rt rv F S G w) (hs : ∀ i, RSV w S s.rt rv (s.sl i) (a.tmps.getD i undef)) {σ : Ty} {place : Nat → Option (Nat × Nat)} (hp : ∀ k f δ, σ.fldOff k = some (f, δ) → place k = some (δ, f.size)) :
    ∀ (ps : List (Nat × Operand)) (vs vs' : List SV) (us : List Value) (l l' : List Nat), (partsF σ ps vs).run s l = some (vs', l') → RSVs w S s.rt rv vs us → Fits σ us →
    ∃ us', RSVs w S s.rt rv vs' us' ∧ Instr.fill place (flatL us).toArray (ps.map fun p => (p.1, a.eval p.2)) = some (flatL us').toArray
  | [], vs, vs', us, l, l', h, hv, hf => by
    simp only [partsF] at h
    have := ret_some h; cases this
    exact ⟨us, hv, rfl⟩
  | (k, o) :: ps, vs, vs', us, l, l', h, hv, hf => by
    simp only [partsF] at h
    obtain ⟨v, l1, h1, h2⟩ := run_bind_some h
    split at h2
    · rename_i f δ hk
      obtain ⟨_, l2, h3, h4⟩ := run_bind_some h2
      have hu := opd_sound hs h1
      have hb := stor_sound m h3 hu
      have hl := BRep_len hb
      obtain ⟨g1, g2, g3⟩ := Fits.set (v := a.eval o) hf hk hl
      obtain ⟨us', q1, q2⟩ := partsF_sound m hs hp ps _ vs' _ _ l' h4 (RSVs_set hu hv) g1
      refine ⟨us', q1, ?_⟩
      rw [List.map_cons, fill_ovr (hp k f δ hk) hl (by simpa using g3)]
      rw [g2] at q2
      simpa using q2
    · exact (fail_some h2).elim

theorem op_build (m : Mem C s.rt rv F S G w) (hs : ∀ i, RSV w S s.rt rv (s.sl i) (a.tmps.getD i undef)) (hE : EnvTy P E) {n d : Nat} {o : Oper} {t : TypeId} {parts : Array (Nat × Operand)} (ho : o.op = .build t parts)
    {e : Eff} {l l' : List Nat} (h : (op E n d (.build t parts)).run s l = some (e, l')) : Quiet P o a w S s rv e := by
  simp only [op] at h
  obtain ⟨σ, bb, h5, h6⟩ := tyOf_some h
  cases ha : σ.isAgg with
  | false => rw [ha] at h6; exact (fail_some h6).elim
  | true =>
    rw [ha] at h6
    obtain ⟨vs, l1, h1, h2⟩ := run_bind_some h6
    have := ret_some h2; cases this
    have hok := (hE.ok h5).1
    obtain ⟨i, z, hi⟩ := hok.inf
    have hbb : ∃ us', RSVs w S s.rt rv vs us' ∧ P.built t (parts.map fun (i, x) => (i, a.eval x)).toList = some (flatL us').toArray := by
      rcases hok.aggs ha with ⟨fs, hu, hfs⟩ | ⟨nn, te, el, hu, harr, hte⟩
      · obtain ⟨pl, p1, p2⟩ := hfs.places
        obtain ⟨us, u1, u2, u3⟩ := zeroFs_sound (w := w) (S := S) (rv := rv) (rt := s.rt) hfs.chain hi.ok
        obtain ⟨us', q1, q2⟩ := partsF_sound m hs (place := fun x => pl.toArray[x]?) (fun k f δ hk => by simpa using p2 k f δ hk) _ _ vs us _ _ h1 u1 u2
        refine ⟨us', q1, ?_⟩
        unfold Program.built
        simp only [hi.info, hu, hi.zero, p1]
        rw [u3] at q2
        simpa using q2
      · obtain ⟨us, u1, u2, u3⟩ := zeroFs_sound (w := w) (S := S) (rv := rv) (rt := s.rt) (arrT_chain harr) hi.ok
        obtain ⟨ie, ze, hie⟩ := hte.inf
        obtain ⟨us', q1, q2⟩ := partsF_sound m hs (place := fun x => some (x * el.size, el.size)) (fun k f δ hk => by
          obtain ⟨rfl, rfl, _⟩ := arrT_fld harr hk
          rfl) _ _ vs us _ _ h1 u1 u2
        refine ⟨us', q1, ?_⟩
        unfold Program.built
        simp only [hi.info, hu, hi.zero, hie.info, hie.size]
        rw [u3] at q2
        simpa using q2
    obtain ⟨us', q1, hbuilt⟩ := hbb
    refine ⟨rfl, .agg (flatL us').toArray, ?_, ?_⟩
    · have := run_build w t (parts.map fun (i, x) => (i, a.eval x)) _ hbuilt
      unfold execOp
      rw [ho]
      simp only [Sem.run_bind, this, Result.andThen]
      rfl
    · simp only [RSV]
      exact ⟨us', q1, rfl⟩
end
end Go.Abs
set_option linter.unusedVariables false
set_option linter.unusedSimpArgs false
set_option linter.unnecessarySimpa false
set_option linter.unusedSectionVars false
namespace Go.Abs
open Go

theorem elem_of {P : Program} {t te : TypeId} (h : P.underlying t = some (.slice te)) : P.elem t = te := by simp [Program.elem, h]

section
variable {C : Ctx} {s : St} {rv : Nat → Value} {F : Nat → Fp} {S G : Fp} {w : World} {P : Program} {E : Env} {a : Act}

/-- the cut of a slice that nobody writes -/
theorem slice_rep {e : Ty} {xs : List e.den} {A : Option Addr} {n c l h : Nat} (hr : rep w S (.list e) 0 xs [.slice A n c] (fun _ => False)) (h1 : l ≤ h) (h2 : h ≤ xs.length) :
    rep w S (.list e) 0 ((xs.take h).drop l) [sliced A l h c e.size] (fun _ => False) ∧ n = xs.length ∧ n ≤ c := by
  rcases hr with ⟨e1, rfl, _⟩ | ⟨b, o, c', arr, Gx, e1, e2, e3, e4, e5⟩
  · simp at e1
    obtain ⟨rfl, rfl, rfl⟩ := e1
    simp at h2
    subst h2
    obtain rfl : l = 0 := by omega
    exact ⟨.inl ⟨by simp [sliced], by simp, fun _ h => h⟩, rfl, Nat.le_refl _⟩
  · simp at e1
    obtain ⟨rfl, rfl, rfl⟩ := e1
    refine ⟨?_, rfl, e2⟩
    obtain ⟨_, g1, g2, g3⟩ := e5.resolve_right (by omega)
    obtain ⟨Gi, k1, k2, k3⟩ := e4
    have hlen : ((xs.take h).drop l).length = h - l := by simp; omega
    have hGi : ∀ i b, i < xs.length → ¬ Gi i b := fun i b hi => rep_none (.inl rfl) (k1 i hi) b
    by_cases hc : c = l
    · subst hc
      obtain rfl : h = c := by omega
      refine .inr ⟨b, o, 0, arr, fun _ => False, ?_, by rw [hlen]; omega, by simp; omega, ⟨fun _ _ => False, fun i hi => by rw [hlen] at hi; omega, fun i j b hi => by rw [hlen] at hi; omega, fun b => ⟨fun h => h.elim, fun ⟨i, _, h⟩ => h.elim⟩⟩, .inl ⟨rfl, g1, g2, g3⟩⟩
      rw [hlen]
      simp [sliced]
    · refine .inr ⟨b, o + l * e.size, c - l, arr, fun _ => False, ?_, by rw [hlen]; omega, ?_, ⟨fun _ _ => False, fun i hi => ?_, fun i j b _ _ h => h.elim, fun b => ⟨fun h => h.elim, fun ⟨i, _, h⟩ => h.elim⟩⟩, .inl ⟨rfl, g1, g2, g3⟩⟩
      · rw [hlen]
        simp only [sliced, hc, if_false, Option.map_some, Addr.add]
        by_cases h0 : l * e.size = 0
        · simp [h0]
        · simp [h0]
      · rw [Nat.add_assoc, ← Nat.add_mul, Nat.add_sub_cancel' (by omega)]; exact e3
      · rw [hlen] at hi
        have hi' : l + i < xs.length := by omega
        have := k1 (l + i) hi'
        have e6 : ((xs.take h).drop l)[i] = xs[l + i] := by simp
        rw [e6, show o + l * e.size + i * e.size = o + (l + i) * e.size by rw [Nat.add_mul]; omega]
        exact rep_iff this fun b => ⟨fun h => h.elim, fun h => hGi _ _ hi' h⟩

def optI (lo : Option Operand) : Rd (Option Int) := match lo with
  | some o => (opd o).bind fun v => asInt v fun _ i => .ret (some i)
  | none => .ret none

theorem optI_sound (hs : ∀ i, RSV w S s.rt rv (s.sl i) (a.tmps.getD i undef)) {lo : Option Operand} {x : Option Int} {l l' : List Nat} (h : (optI lo).run s l = some (x, l')) :
    (lo = none ∧ x = none) ∨ ∃ o k i, lo = some o ∧ x = some i ∧ a.eval o = .int k i := by
  cases lo with
  | none => have := ret_some h; cases this; exact .inl ⟨rfl, rfl⟩
  | some o =>
    obtain ⟨v, l1, h1, h2⟩ := run_bind_some h
    obtain ⟨k, i, rfl, h3⟩ := asInt_some h2
    have := ret_some h3; cases this
    exact .inr ⟨o, k, i, rfl, rfl, rsv_int.1 (opd_sound hs h1)⟩

/-- how a cut runs -/
theorem run_cut {t te : TypeId} {e0 : Ty} (hu : P.underlying t = some (.slice te)) (ht : TyOk P te e0) {A : Option Addr} {n c : Nat} (hnc : n ≤ c) {lo hi : Option Operand} {xl xh : Option Int}
    (h1 : (lo = none ∧ xl = none) ∨ ∃ o k i, lo = some o ∧ xl = some i ∧ a.eval o = .int k i) (h2 : (hi = none ∧ xh = none) ∨ ∃ o k i, hi = some o ∧ xh = some i ∧ a.eval o = .int k i)
    (g1 : 0 ≤ xl.getD 0) (g2 : xl.getD 0 ≤ xh.getD n) (g3 : xh.getD n ≤ n) :
    (Instr.sliceAt t (.slice A n c) (lo.map a.eval) (hi.map a.eval) none).run P w = .ok (sliced A (xl.getD 0).toNat (xh.getD n).toNat c e0.size) w := by
  have hel := elem_of hu
  have hu' : P.underlying t = some (.slice (P.elem t)) := by rw [hel]; exact hu
  have hsz := ht.size w
  rw [← hel] at hsz
  rw [run_sliceAt_slice w t _ _ _ _ hu']
  rcases h1 with ⟨rfl, rfl⟩ | ⟨o, k, i, rfl, rfl, e1⟩ <;> rcases h2 with ⟨rfl, rfl⟩ | ⟨o', k', i', rfl, rfl, e2⟩ <;> simp only [Option.map_none, Option.map_some, Option.getD_none, Option.getD_some] at g1 g2 g3 ⊢
  · rw [run_slice_all w t A n c hu', hsz]; rfl
  · rw [e2, run_slice_h w t A n c hu' k' i' g2 (by omega), hsz]; rfl
  · rw [e1, run_slice_l w t A n c hu' k i g1 g2, hsz]; rfl
  · rw [e1, e2, run_slice_lh w t A n c hu' k k' i i' g1 g2 (by omega), hsz]; rfl

/-- how a cut is told -/
theorem cut_some {e : Ty} {xs : List e.den} {lo hi : Option Int} {r : RL} {q : Eff} {l l' : List Nat} (h : (op.cut e xs lo hi r).run s l = some (q, l')) :
    0 ≤ lo.getD 0 ∧ lo.getD 0 ≤ hi.getD xs.length ∧ hi.getD xs.length ≤ xs.length ∧ q = ⟨.val (.list e) ((xs.take (hi.getD xs.length).toNat).drop (lo.getD 0).toNat), r⟩ := by
  unfold op.cut at h
  split at h
  · obtain ⟨h1, h2⟩ := chk_some h
    have := ret_some h2; cases this
    simp at h1
    simp; omega
  · obtain ⟨h1, h2⟩ := chk_some h
    have := ret_some h2; cases this
    simp at h1
    simp; omega
  · obtain ⟨h1, h2⟩ := chk_some h
    have := ret_some h2; cases this
    simp at h1
    simp; omega
  · have := ret_some h; cases this
    simp

/-- cut at its end, an owned slice stays owned -/
theorem keep_rep {e : Ty} {d : Nat} {xs : List e.den} {A : Option Addr} {n c h : Nat} {F : Fp} (hr : rep w S (.list e) (d + 1) xs [.slice A n c] F) (h2 : h ≤ xs.length) :
    ∃ F' : Fp, rep w S (.list e) (d + 1) (xs.take h) [sliced A 0 h c e.size] F' ∧ (∀ b, F' b → F b) ∧ n = xs.length ∧ n ≤ c := by
  rcases hr with ⟨e1, rfl, hF⟩ | ⟨b, o, c', arr, Gx, e1, e2, e3, e4, e5⟩
  · simp at e1
    obtain ⟨rfl, rfl⟩ := e1
    simp at h2
    subst h2
    exact ⟨F, .inl ⟨by simp [sliced], by simp, hF⟩, fun _ h => h, rfl, Nat.le_refl _⟩
  · simp at e1
    obtain ⟨rfl, rfl, rfl⟩ := e1
    obtain ⟨_, g1, g2, g3⟩ := e5.resolve_left (by omega)
    obtain ⟨Gi, k1, k2, k3⟩ := e4
    have hlen : (xs.take h).length = h := by simp; omega
    have hv : sliced (some ⟨b, o, none⟩) 0 h c e.size = .slice (some ⟨b, o, none⟩) (xs.take h).length c := by
      rw [hlen]
      by_cases hc : c = 0
      · subst hc; simp [sliced]
      · simp [sliced, Addr.add]
    refine ⟨fun b' => b' = b ∨ ∃ i, i < h ∧ Gi i b', .inr ⟨b, o, c, arr, fun b' => ∃ i, i < h ∧ Gi i b', by rw [hv], by rw [hlen]; omega, e3, ⟨Gi, fun i hi => ?_, fun i j b' hi hj => k2 i j b' (by rw [hlen] at hi; omega) (by rw [hlen] at hj; omega), fun b' => by rw [hlen]⟩, .inr ⟨by omega, g1, ?_, fun _ => Iff.rfl⟩⟩, ?_, rfl, e2⟩
    · rw [hlen] at hi
      have e6 : (xs.take h)[i] = xs[i] := by simp
      rw [e6]; exact k1 i (by omega)
    · rintro ⟨i, hi, hb⟩
      exact g2 ((k3 b).2 ⟨i, by omega, hb⟩)
    · rintro b' (rfl | ⟨i, hi, hb⟩)
      · exact (g3 b').2 (.inl rfl)
      · exact (g3 b').2 (.inr ((k3 b').2 ⟨i, by omega, hb⟩))
theorem slice_keep (m : Mem C s.rt rv F S G w) (hE : EnvTy P E) {d : Nat} {o : Oper} {t : TypeId} {x : Operand} {lo hi : Option Operand} (ho : o.op = .slice t x lo hi none) {τ0 : Ty} {bb : Nat} (h5 : E.ty t = some (τ0, bb)) {id : Nat} {r : Root} (he : τ0 = .list r.τ) (hr : s.rt id = .live r) {xl xh : Option Int}
    (hl : (lo = none ∧ xl = none) ∨ ∃ o k i, lo = some o ∧ xl = some i ∧ a.eval o = .int k i) (hh : (hi = none ∧ xh = none) ∨ ∃ o k i, hi = some o ∧ xh = some i ∧ a.eval o = .int k i) (hx : a.eval x = rv id)
    {e : Eff} {l l' : List Nat} (h8 : (keepCut d id r xl xh).run s l = some (e, l')) : Does P o a w (Post C s rv w S e) := by
  subst he
  unfold keepCut at h8
  split at h8
  · rename_i h
    obtain ⟨hf, h9⟩ := fresh_some h8
    obtain ⟨g1, g2⟩ := chk_some h9
    have := ret_some g2; cases this
    simp at g1
    have h0 := m.live id _ hr
    obtain ⟨A, c, e1⟩ := root_slice h0
    rw [e1] at h0
    obtain ⟨F', k1, k2, _, hnc⟩ := keep_rep h0 (h := h.toNat) (by omega)
    obtain ⟨te, hu, ht⟩ := (hE.ok h5).1.slice
    have hrun : (execOp a.eval o).run P w = .ok (.value (sliced A 0 h.toNat c r.τ.size)) w := by
      have := run_cut (a := a) (P := P) (w := w) (A := A) hu ht hnc hl hh (by simp) (by simp; omega) (by simp; omega)
      unfold execOp
      rw [ho]
      simp only [Sem.run_bind, hx, e1, Option.map_none, this, Result.andThen]
      rfl
    have sp : Split [(id, RSt.dead)] F (F id) (fun _ => False) :=
      ⟨fun b hb => ⟨id, .dead, List.mem_singleton.2 rfl, hb⟩, fun _ h => h.elim, fun _ _ h => h, fun i τ xs hi => by rw [List.mem_singleton] at hi; cases hi⟩
    obtain ⟨m1, K1⟩ := consume m (l := [(id, RSt.dead)]) (by simp [ids]) (fun i st hi => by rw [List.mem_singleton] at hi; cases hi; exact ⟨r, hr, .inl rfl⟩) sp
    have hne : 32 * d ≠ id := by intro e; rw [e, hr] at hf; cases hf
    have hfr : (putRs [(id, RSt.dead)] s).rt (32 * d) = .none := by
      rw [putRs_other]
      · exact hf
      · simp [ids]; exact hne
    obtain ⟨m2, K2⟩ := newRoot m1 (ver := 0) hfr (w' := w) (fun _ _ _ => rfl) (Nat.le_refl _) (Same.refl w) (rep_frame (fun _ h => .inl h) (fun _ _ => rfl) (fun _ _ => rfl) k1) (fun b hb => .inl (.inr (k2 b hb)))
    have hrt : (putRs [(32 * d, RSt.live ⟨r.d, r.τ, r.xs.take h.toNat, 0⟩), (id, .dead)] s).rt = fun j => if j = 32 * d then .live ⟨r.d, r.τ, r.xs.take h.toNat, 0⟩ else (putRs [(id, RSt.dead)] s).rt j := by
      funext j
      simp only [putRs, putR_rt]
      by_cases h1 : j = 32 * d
      · subst h1; simp [hne]
      · simp [h1]
    refine .inl ⟨_, w, hrun, Post.mk hrt m2 (K1.trans K2) ?_⟩
    simp only [RSV, RAt, if_true]
    exact ⟨Nat.le_refl _, by simp, by simp [nix]⟩
  · exact (fail_some h8).elim

theorem op_slice (m : Mem C s.rt rv F S G w) (hs : ∀ i, RSV w S s.rt rv (s.sl i) (a.tmps.getD i undef)) (hE : EnvTy P E) {n d : Nat} {o : Oper} {t : TypeId} {x : Operand} {lo hi : Option Operand} (ho : o.op = .slice t x lo hi none)
    {e : Eff} {l l' : List Nat} (h : (op E n d (.slice t x lo hi none)).run s l = some (e, l')) : Does P o a w (Post C s rv w S e) := by
  simp only [op] at h
  obtain ⟨τ0, bb, h5, h6⟩ := tyOf_some h
  obtain ⟨v, l1, h1, h2⟩ := run_bind_some h6
  have hv := opd_sound hs h1
  obtain ⟨xl, l2, h3, h4⟩ := run_bind_some h2
  obtain ⟨xh, l3, h7, h8⟩ := run_bind_some h4
  have hl := optI_sound hs (lo := lo) h3
  have hh := optI_sound hs (lo := hi) h7
  have hok := (hE.ok h5).1
  -- a list
  have lst : ∀ (e0 : Ty) (xs : List e0.den) (A : Option Addr) (c : Nat) (S' : Fp), τ0 = .list e0 → a.eval x = .slice A xs.length c → rep w S' (.list e0) 0 xs [.slice A xs.length c] (fun _ => False) →
      0 ≤ xl.getD 0 → xl.getD 0 ≤ xh.getD xs.length → xh.getD xs.length ≤ xs.length →
      ∃ v, (execOp a.eval o).run P w = .ok (.value v) w ∧ rep w S' (.list e0) 0 ((xs.take (xh.getD xs.length).toNat).drop (xl.getD 0).toNat) [v] (fun _ => False) := by
    intro e0 xs A c S' he hx hr g1 g2 g3
    subst he
    obtain ⟨te, hu, ht⟩ := hok.slice
    have hc := slice_rep hr (l := (xl.getD 0).toNat) (h := (xh.getD xs.length).toNat) (by omega) (by omega)
    refine ⟨_, ?_, hc.1⟩
    unfold execOp
    rw [ho]
    simp only [Sem.run_bind, hx, Option.map_none, run_cut (a := a) hu ht hc.2.2 hl hh g1 g2 g3, Result.andThen]
    rfl
  split at h8
  · -- a string
    rename_i s0
    split at h8
    · rename_i he
      subst he
      have hx := rsv_str.1 hv
      have hu := hok.string
      have fin : ∀ (r : ByteArray), e = ⟨.val .str r, []⟩ → (Instr.sliceAt t (.string s0) (lo.map a.eval) (hi.map a.eval) none).run P w = .ok (.string r) w → Does P o a w (Post C s rv w S e) := by
        intro r he hrun
        subst he
        refine Quiet.does m ⟨rfl, .string r, ?_, rsv_str.2 rfl⟩
        unfold execOp
        rw [ho]
        simp only [Sem.run_bind, hx, Option.map_none, hrun, Result.andThen]
        rfl
      have red : ∀ lo hi, (Instr.sliceAt t (.string s0) lo hi none).run P w = (Instr.slice t (.string s0) lo hi none).run P w := fun lo hi => run_sliceAt_string w t _ _ _ _ hu
      split at h8
      · rename_i i j
        obtain ⟨g1, g2⟩ := chk_some h8
        have := ret_some g2; cases this
        simp at g1
        obtain ⟨o1, k1, i1, rfl, e1, e2⟩ := hl.resolve_left (by simp)
        obtain ⟨o2, k2, i2, rfl, e3, e4⟩ := hh.resolve_left (by simp)
        cases e1; cases e3
        refine fin _ rfl ?_
        have eh : ((j.toNat : Nat) : Int) = j := Int.toNat_of_nonneg (by omega)
        rw [red, Option.map_some, Option.map_some, e2, e4]
        simp [Instr.slice, run_underlying hu, Instr.sliceBounds, run_sliceBound, eh, g1, (by omega : 0 ≤ j)]
      · rename_i i
        obtain ⟨g1, g2⟩ := chk_some h8
        have := ret_some g2; cases this
        simp at g1
        obtain ⟨o1, k1, i1, rfl, e1, e2⟩ := hl.resolve_left (by simp)
        obtain ⟨rfl, _⟩ := hh.resolve_right (by simp)
        cases e1
        refine fin _ rfl ?_
        rw [red, Option.map_some, Option.map_none, e2]
        simp [Instr.slice, run_underlying hu, Instr.sliceBounds, run_sliceBound, g1]
      · rename_i j
        obtain ⟨g1, g2⟩ := chk_some h8
        have := ret_some g2; cases this
        simp at g1
        obtain ⟨rfl, _⟩ := hl.resolve_right (by simp)
        obtain ⟨o2, k2, i2, rfl, e3, e4⟩ := hh.resolve_left (by simp)
        cases e3
        refine fin _ rfl ?_
        rw [red, Option.map_some, Option.map_none, e4]
        simp [Instr.slice, run_underlying hu, Instr.sliceBounds, run_sliceBound, g1]
      · have := ret_some h8; cases this
        obtain ⟨rfl, _⟩ := hl.resolve_right (by simp)
        obtain ⟨rfl, _⟩ := hh.resolve_right (by simp)
        refine fin _ rfl ?_
        rw [red, Option.map_none]
        simp [Instr.slice, run_underlying hu, Instr.sliceBounds, run_sliceBound]
    · exact (fail_some h8).elim
  · split at h8
    · -- an owned slice is frozen
      rename_i id ver _
      simp only [Rd.run] at h8
      simp only [RSV, RAt] at hv
      cases hr : s.rt id <;> simp only [hr] at h8 <;> try exact (fail_some h8).elim
      · rename_i τ xs
        rw [hr] at hv
        split at h8
        · rename_i he
          obtain ⟨g1, g2, g3, rfl⟩ := cut_some h8
          have h0 := m.frz id _ _ hr
          obtain ⟨A, c, e1⟩ := root_slice h0
          rw [e1] at h0
          obtain ⟨v, q1, q2⟩ := lst τ xs A c S he (by rw [hv trivial, e1]) h0 g1 g2 g3
          refine Quiet.does m ⟨rfl, v, q1, ?_⟩
          simp only [RSV]
          exact ⟨[v], q2, by simp [Ty.wrap, Ty.isAgg]⟩
        · exact (fail_some h8).elim
      · rename_i r
        rw [hr] at hv
        split at h8
        · rename_i he
          cases hk : keepS E d with
          | true =>
            rw [hk] at h8
            simp only [cond_true] at h8
            exact slice_keep m hE ho h5 he hr hl hh ((hv.2.1 rfl).2) h8
          | false =>
            rw [hk] at h8
            simp only [cond_false] at h8
            obtain ⟨g1, g2, g3, rfl⟩ := cut_some h8
            have h0 := rep_freeze (m.live id _ hr)
            obtain ⟨A, c, e1⟩ := root_slice h0
            rw [e1] at h0
            obtain ⟨v, q1, q2⟩ := lst r.τ r.xs A c _ he ((hv.2.1 rfl).2.trans e1) h0 g1 g2 g3
            have sp : Split [(id, RSt.frz r.τ r.xs)] F (fun _ => False) (F id) :=
              ⟨fun _ h => h.elim, fun b hb => ⟨id, .frz r.τ r.xs, List.mem_singleton.2 rfl, hb⟩, fun _ h => h.elim, fun i τ xs hi b hb => by rw [List.mem_singleton] at hi; cases hi; exact hb⟩
            obtain ⟨m2, k2⟩ := consume m (l := [(id, RSt.frz r.τ r.xs)]) (by simp [ids]) (fun i st hi => by rw [List.mem_singleton] at hi; cases hi; exact ⟨r, hr, .inr rfl⟩) sp
            refine .inl ⟨v, w, q1, rv, _, _, _, m2, k2, ?_⟩
            simp only [RSV]
            exact ⟨[v], q2, by simp [Ty.wrap, Ty.isAgg]⟩
        · exact (fail_some h8).elim
    · rename_i e0 xs _
      split at h8
      · rename_i he
        obtain ⟨g1, g2, g3, rfl⟩ := cut_some h8
        simp only [RSV] at hv
        obtain ⟨cs, h0, hx⟩ := hv
        obtain ⟨u, rfl⟩ : ∃ u, cs = [u] := by
          have := rep_len h0
          match cs, this with
          | [u], _ => exact ⟨u, rfl⟩
        obtain ⟨A, c, rfl⟩ := root_slice h0
        obtain ⟨v, q1, q2⟩ := lst e0 xs A c S he (by rw [hx]; simp [Ty.wrap, Ty.isAgg]) h0 g1 g2 g3
        refine Quiet.does m ⟨rfl, v, q1, ?_⟩
        simp only [RSV]
        exact ⟨[v], q2, by simp [Ty.wrap, Ty.isAgg]⟩
      · exact (fail_some h8).elim
    · exact (fail_some h8).elim

theorem op_slice0 (m : Mem C s.rt rv F S G w) (hs : ∀ i, RSV w S s.rt rv (s.sl i) (a.tmps.getD i undef)) (hE : EnvTy P E) {n d : Nat} {o : Oper} {t : TypeId} {x hi mx : Operand} (ho : o.op = .slice t x none (some hi) (some mx))
    {e : Eff} {l l' : List Nat} (h : (op E n d (.slice t x none (some hi) (some mx))).run s l = some (e, l')) : Quiet P o a w S s rv e := by
  simp only [op] at h
  obtain ⟨τ0, bb, h5, h6⟩ := tyOf_some h
  split at h6
  · rename_i e0 b0
    obtain ⟨v, l1, h1, h2⟩ := run_bind_some h6
    have hv := opd_sound hs h1
    obtain ⟨y, l2, h3, h4⟩ := run_bind_some h2
    split at h4
    · obtain ⟨v1, l3, h7, h8⟩ := run_bind_some h4
      obtain ⟨k, i, rfl, h9⟩ := asInt_some h8
      obtain ⟨v2, l4, h10, h11⟩ := run_bind_some h9
      obtain ⟨k', j, rfl, h12⟩ := asInt_some h11
      obtain ⟨g, h13⟩ := chk_some h12
      have := ret_some h13; cases this
      obtain ⟨A, c, hx, _⟩ := content_list m h3 hv
      have hh := rsv_int.1 (opd_sound hs h7)
      have hm := rsv_int.1 (opd_sound hs h10)
      simp at g
      obtain ⟨rfl, rfl⟩ := g
      obtain ⟨te, hu, ht⟩ := (hE.ok h5).1.slice
      have hel := elem_of hu
      have hu' : P.underlying t = some (.slice (P.elem t)) := by rw [hel]; exact hu
      refine ⟨rfl, .slice A 0 0, ?_, ?_⟩
      · unfold execOp
        rw [ho]
        simp only [Sem.run_bind, hx, Option.map_none, Option.map_some, hh, hm]
        rw [run_sliceAt_slice w t _ _ _ _ hu']
        have hz := ht.size w
        rw [← hel] at hz
        simp [Instr.slice, run_underlying hu', Instr.sliceBounds, run_sliceBound, Result.andThen, hz]
      · simp only [RSV]
        exact ⟨A, rfl⟩
    · exact (fail_some h4).elim
  · exact (fail_some h6).elim
end
end Go.Abs
set_option linter.unusedVariables false
set_option linter.unusedSimpArgs false
set_option linter.unnecessarySimpa false
set_option linter.unusedSectionVars false
namespace Go.Abs
open Go

theorem TyOk.intK {P : Program} {t : TypeId} {k : IntKind} (h : TyOk P t (.int k)) : P.underlying t = some (.int k) := by
  cases h with
  | int h _ => exact h
  | struct _ _ h _ => simp [Ty.isAgg] at h
  | array _ _ h _ _ => simp [Ty.isAgg] at h

section
variable {C : Ctx} {s : St} {rv : Nat → Value} {F : Nat → Fp} {S G : Fp} {w : World} {P : Program} {E : Env} {a : Act}

theorem op_convert (m : Mem C s.rt rv F S G w) (hs : ∀ i, RSV w S s.rt rv (s.sl i) (a.tmps.getD i undef)) (hE : EnvTy P E) {n d : Nat} {o : Oper} {src dst : TypeId} {x : Operand} (ho : o.op = .convert src dst x)
    {e : Eff} {l l' : List Nat} (h : (op E n d (.convert src dst x)).run s l = some (e, l')) : Does P o a w (Post C s rv w S e) := by
  simp only [op] at h
  obtain ⟨τd, bd, h5, h6⟩ := tyOf_some h
  have hd := (hE.ok h5).1
  have ex : ∀ v w', (convert src dst (a.eval x)).run P w = .ok v w' → (execOp a.eval o).run P w = .ok (.value v) w' := by
    intro v w' hv
    unfold execOp
    rw [ho]
    simp only [Sem.run_bind, hv, Result.andThen]
    rfl
  split at h6
  · -- to a number
    rename_i k
    obtain ⟨v, l1, h1, h2⟩ := run_bind_some h6
    obtain ⟨τs, bs, h7, h8⟩ := tyOf_some h2
    have hsrc := (hE.ok h7).1
    split at h8
    · rename_i k'
      obtain ⟨k2, i, rfl, h9⟩ := asInt_some h8
      have := ret_some h9; cases this
      have hx := rsv_int.1 (opd_sound hs h1)
      have hk : P.intKind dst = k := by simp [Program.intKind, hd.intK]
      have hrun := run_convert_int (P := P) w src dst k2 i (by rw [hsrc.intK]; rfl) (by rw [hk]; exact hd.intK)
      rw [hk] at hrun
      exact Quiet.does m ⟨rfl, _, ex _ _ (by rw [hx]; exact hrun), rsv_int.2 rfl⟩
    · exact (fail_some h8).elim
  · -- to a string
    have hud := hd.string
    obtain ⟨τs, bs, h7, h8⟩ := tyOf_some h6
    have hsrc := (hE.ok h7).1
    split at h8
    · obtain ⟨v, l1, h1, h2⟩ := run_bind_some h8
      split at h2
      · have := ret_some h2; cases this
        have hx := rsv_str.1 (opd_sound hs h1)
        refine Quiet.does m ⟨rfl, _, ex _ _ ?_, rsv_str.2 rfl⟩
        rw [hx]
        simp [convert, run_underlying hsrc.string, run_underlying hud]
      · exact (fail_some h2).elim
    · obtain ⟨te, hu, hte⟩ := hsrc.slice
      have he := hte.intK
      obtain ⟨v, l1, h1, h2⟩ := run_bind_some h8
      have hv := opd_sound hs h1
      split at h2
      · have := ret_some h2; cases this
        simp only [RSV] at hv
        obtain ⟨A, hA⟩ := hv
        refine Quiet.does m ⟨rfl, .string "".toUTF8, ex _ _ ?_, rsv_str.2 rfl⟩
        rw [hA]
        cases A with
        | none => exact run_convert_bytes_nil w src te hu he 0 0 dst hud
        | some A =>
          have hl : (loadCells A 0).run P w = .ok #[] w := run_loadCells_list (P := P) w A [] (fun j v hj => by simp at hj)
          rw [run_convert_bytes_string w src dst te (some A) _ _ hu he hud]
          simp [Conv.bytesToString, Sem.run_bind, hl]
      · obtain ⟨y, l2, h3, h4⟩ := run_bind_some h2
        split at h4
        · rename_i xs
          have := ret_some h4; cases this
          obtain ⟨A, c, hx, Fx, _, hr⟩ := content_list m h3 hv
          rw [hx] at hr
          refine Quiet.does m ⟨rfl, .string (strOf xs), ex _ _ ?_, rsv_str.2 rfl⟩
          rw [hx]
          rcases hr with ⟨e1, rfl, _⟩ | ⟨b, o', c', arr, Gx, e1, e2, e3, e4, e5⟩
          · simp at e1
            obtain ⟨rfl, rfl⟩ := e1
            cases A with
            | none => exact run_convert_bytes_nil w src te hu he 0 0 dst hud
            | some A =>
              have hl : (loadCells A 0).run P w = .ok #[] w := run_loadCells_list (P := P) w A [] (fun j v hj => by simp at hj)
              rw [run_convert_bytes_string w src dst te (some A) _ _ hu he hud]
              simp [Conv.bytesToString, Sem.run_bind, hl, strOf]
              rfl
          · simp at e1
            obtain ⟨rfl, rfl⟩ := e1
            obtain ⟨_, g1, _, _⟩ := e5.resolve_right (by omega)
            obtain ⟨Gi, k1, _, _⟩ := e4
            refine run_convert_bytes_arg w src te hu he b o' xs.length c xs rfl (fun i hi => ?_) dst hud
            have := (k1 i hi).1
            rw [g1.cell]
            have h1 : (seg arr (o' + i * 1) 1)[0]? = arr[o' + i]? := by simp [seg]
            have h2 : (seg arr (o' + i * 1) 1)[0]? = some (.int .u8 xs[i]) := by
              have : seg arr (o' + i * 1) 1 = [.int .u8 xs[i]] := this
              rw [this]; rfl
            rw [← h1, h2]
            simp [List.getD, hi]
        · exact (fail_some h4).elim
    · exact (fail_some h8).elim
  · -- to bytes
    obtain ⟨te, hu, hte⟩ := hd.slice
    have he := hte.intK
    obtain ⟨τs, bs, h7, h8⟩ := tyOf_some h6
    have hsrc := (hE.ok h7).1
    split at h8
    · obtain ⟨hf, h9⟩ := fresh_some h8
      obtain ⟨v, l1, h1, h2⟩ := run_bind_some h9
      split at h2
      · rename_i s0
        obtain ⟨_, h3⟩ := chk_some h2
        have := ret_some h3; cases this
        have hx := rsv_str.1 (opd_sound hs h1)
        have hrun := run_bytes_of_string (P := P) w src dst te s0 hsrc.string hu he
        have hge := grownCap_ge w s0.size 0 te
        generalize grownCap w s0.size 0 te = cap at hrun hge
        have hds : s0.data.size = s0.size := rfl
        have hbs : (bytesRow s0 cap).size = cap := by
          simp only [bytesRow, Array.size_append, Array.size_map, Array.size_replicate]
          omega
        have hlen : (bytesOfStr s0).length = s0.size := by
          simp only [bytesOfStr, List.length_map, Array.length_toList]
          exact hds
        have hown : Own 0 (w.drew.alloc (.cells (bytesRow s0 cap) te ((bytesRow s0 cap).size, (bytesRow s0 cap).size + 1))) w.heap.size (bytesRow s0 cap) :=
          ⟨te, (bytesRow s0 cap).size, (bytesRow s0 cap).size + 1, by show (w.heap.push _)[w.heap.size]? = _; simp, fun i hi h => by omega⟩
        have hrow := row_rep (S := S) (e := .int .u8) (d := DEEP) (xs := bytesOfStr s0) (c := cap) (Gi := fun _ _ => False) hown
          (by rw [hlen]; exact hge) (by rw [hbs]; simp [Ty.size])
          (fun i hi => by
            rw [hlen] at hi
            show seg (bytesRow s0 cap) (i * 1) 1 = [.int .u8 ((bytesOfStr s0)[i])] ∧ _
            refine ⟨?_, fun _ h => h⟩
            rw [Nat.mul_one]
            have hi' : i < s0.data.size := hi
            have : (bytesRow s0 cap)[i]? = some (.int .u8 ((bytesOfStr s0)[i]'(by rw [hlen]; exact hi))) := by
              unfold bytesRow
              rw [Array.getElem?_append_left (by simpa using hi'), Array.getElem?_map, Array.getElem?_eq_getElem hi']
              simp [bytesOfStr]
            apply List.ext_getElem?
            intro j
            rw [seg_get]
            by_cases hj : j < 1
            · obtain rfl : j = 0 := by omega
              rw [if_pos hj, Nat.add_zero, this]; rfl
            · rw [if_neg hj, List.getElem?_eq_none (by simp; omega)])
          (fun i j b _ _ h => h.elim) (fun i _ h => h)
        obtain ⟨m3, K3⟩ := newRoot m (ver := 0) hf (w' := w.drew.alloc (.cells (bytesRow s0 cap) te ((bytesRow s0 cap).size, (bytesRow s0 cap).size + 1))) (fun b _ hb => by
            show (w.heap.push _)[b]? = _
            rw [Array.getElem?_push, if_neg (by omega)]) (by show _ ≤ (w.heap.push _).size; simp) ⟨rfl, rfl, rfl⟩ hrow (by
          rintro b (rfl | ⟨i, _, hb⟩)
          · exact .inr (Nat.le_refl _)
          · exact hb.elim)
        rw [hlen] at m3 K3
        refine .inl ⟨_, _, ex _ _ (by rw [hx]; exact hrun), Post.mk (putRs_one _ _ _) m3 K3 ?_⟩
        simp only [RSV, RAt, updRt, if_true]
        exact ⟨Nat.le_refl _, by simp, by simp [nix]⟩
      · exact (fail_some h2).elim
    · exact (fail_some h8).elim
  · exact (fail_some h6).elim
end
end Go.Abs
set_option linter.unusedVariables false
set_option linter.unusedSimpArgs false
set_option linter.unnecessarySimpa false
set_option linter.unusedSectionVars false
namespace Go.Abs
open Go

/-! Structs of plain fields, compared. -/
theorem run_eqLeaf {P : Program} {w : World} {t : TypeId} {τ : Ty} (ht : TyOk P t τ) (ha : τ.isAgg = false) (hf : τ.flat = true) {S S' : Fp} {d d' : Nat} {x y : τ.den} {cs cs' : List Value} {F F' : Fp}
    (h : rep w S τ d x cs F) (h' : rep w S' τ d' y cs' F') (n : Nat) : (Op.equalIn (n + 1) t (τ.wrap cs) (τ.wrap cs')).run P w = .ok (eqT τ x y) w := by
  cases τ with
  | int k =>
    obtain ⟨rfl, _⟩ := h
    obtain ⟨rfl, _⟩ := h'
    have hu : P.underlying t = some (.int k) := by
      cases ht with
      | int h _ => exact h
      | struct _ _ h _ => simp [Ty.isAgg] at h
      | array _ _ h _ _ => simp [Ty.isAgg] at h
    show (Op.equalIn (n + 1) t (.int k x) (.int k y)).run P w = _
    rw [run_equalIn_int w n t k k x y hu]
    simp only [eqT]
    congr 1
  | bool =>
    obtain ⟨rfl, _⟩ := h
    obtain ⟨rfl, _⟩ := h'
    have hu : P.underlying t = some .bool := by
      cases ht with
      | bool h _ => exact h
      | struct _ _ h _ => simp [Ty.isAgg] at h
      | array _ _ h _ _ => simp [Ty.isAgg] at h
    show (Op.equalIn (n + 1) t (.bool x) (.bool y)).run P w = _
    rw [run_equalIn_bool' w n t x y hu]
    rfl
  | str =>
    obtain ⟨rfl, _⟩ := h
    obtain ⟨rfl, _⟩ := h'
    have hu := ht.string
    show (Op.equalIn (n + 1) t (.string x) (.string y)).run P w = _
    rw [run_equalIn_string w n t x y hu]
    rfl
  | list e => simp [Ty.flat] at hf
  | one f => simp [Ty.isAgg] at ha
  | pair f r => simp [Ty.isAgg] at ha

theorem run_partLeaf {P : Program} {w : World} {t : TypeId} {τ : Ty} (ht : TyOk P t τ) (ha : τ.isAgg = false) {S : Fp} {d : Nat} {x : τ.den} {xs cs : List Value} {o : Nat} {F : Fp}
    (hc : cs = (xs.drop o).take τ.size) (h : rep w S τ d x cs F) : (part t xs.toArray o).run P w = .ok (τ.wrap cs) w := by
  have hl := rep_len h
  rw [Ty.size_one ha] at hl hc
  match cs, hl with
  | [v], _ =>
    have hv : xs[o]? = some v := by
      have h1 : ((xs.drop o).take 1)[0]? = some v := by rw [← hc]; rfl
      rw [List.getElem?_take_of_lt (by omega), List.getElem?_drop] at h1
      simpa using h1
    simp [part, Sem.run_bind, ht.agg w, ha, hv, Ty.wrap]

theorem run_eqFields {P : Program} {w : World} {n : Nat} {S S' : Fp} {d d' : Nat} {xs ys : List Value} : ∀ {τ : Ty} {fs : List Field} {o : Nat} {x y : τ.den} {F F' : Fp}, FOk P fs o τ → τ.leafy = true → (fs.all fun f => f.name != "_") = true →
    rep w S τ d x (xs.drop o) F → rep w S' τ d' y (ys.drop o) F' → (Op.eqFields (n + 1) xs.toArray ys.toArray fs).run P w = .ok (eqT τ x y) w := by
  intro τ
  induction τ with
  | one f _ =>
    intro fs o x y F F' hF hl hn h h'
    cases hF with
    | one ho ht =>
      rename_i fl
      simp only [Ty.leafy, Bool.and_eq_true, Bool.not_eq_true'] at hl
      simp only [List.all_cons, List.all_nil, Bool.and_true, bne_iff_ne] at hn
      have e1 : xs.drop o = (xs.drop o).take f.size := by rw [List.take_of_length_le (by rw [rep_len (τ := f) h]; exact Nat.le_refl _)]
      have e2 : ys.drop o = (ys.drop o).take f.size := by rw [List.take_of_length_le (by rw [rep_len (τ := f) h']; exact Nat.le_refl _)]
      simp only [Op.eqFields, if_pos hn, Sem.run_bind, ho]
      rw [run_partLeaf (xs := xs) ht hl.1 e1 h, Result.andThen_ok, run_partLeaf (xs := ys) ht hl.1 e2 h', Result.andThen_ok, run_eqLeaf ht hl.1 hl.2 h h' n, Result.andThen_ok]
      show (if (!(eqT f x y)) = true then (pure false : Sem Bool) else pure true).run P w = _
      show _ = Result.ok (eqT f x y) w
      cases eqT f x y <;> simp
  | pair f r _ ih =>
    intro fs o x y F F' hF hl hn h h'
    cases hF with
    | pair ho ht hr =>
      rename_i fl fs
      simp only [Ty.leafy, Bool.and_eq_true, Bool.not_eq_true'] at hl
      simp only [List.all_cons, Bool.and_eq_true, bne_iff_ne] at hn
      obtain ⟨F1, F2, g1, g2, _, _⟩ := h
      obtain ⟨F1', F2', g1', g2', _, _⟩ := h'
      rw [List.drop_drop] at g2 g2'
      simp only [Op.eqFields, if_pos hn.1, Sem.run_bind, ho]
      rw [run_partLeaf (xs := xs) ht hl.1.1 rfl g1, Result.andThen_ok, run_partLeaf (xs := ys) ht hl.1.1 rfl g1', Result.andThen_ok, run_eqLeaf ht hl.1.1 hl.1.2 g1 g1' n, Result.andThen_ok]
      have := ih hr hl.2 hn.2 g2 g2'
      show (if (!(eqT f x.1 y.1)) = true then (pure false : Sem Bool) else Op.eqFields (n + 1) xs.toArray ys.toArray fs).run P w = Result.ok (eqT f x.1 y.1 && eqT r x.2 y.2) w
      cases eqT f x.1 y.1
      · simp
      · simpa using this
  | _ => intro fs o x y F F' hF hl; simp [Ty.leafy] at hl

theorem leafy_agg : ∀ {τ : Ty}, τ.leafy = true → τ.isAgg = true
  | .one _, _ | .pair _ _, _ => rfl

section
variable {P : Program} {E : Env} {C : Ctx} {s : St} {rv : Nat → Value} {F : Nat → Fp} {S G : Fp} {w : World} {a : Act} (m : Mem C s.rt rv F S G w) (hs : ∀ i, RSV w S s.rt rv (s.sl i) (a.tmps.getD i undef)) (hE : EnvTy P E)
include m hs hE
theorem op_cmpBin {n d : Nat} {o : Oper} {b : BinOp} {t ty : TypeId} {x y : Operand} (ho : o.op = .binOp b t x y ty) (hc : E.cmp t = true) {e : Eff} {l l' : List Nat}
    (h : (op E n d (.binOp b t x y ty)).run s l = some (e, l')) : Quiet P o a w S s rv e := by
  simp only [op] at h
  obtain ⟨u, l1, h1, h2⟩ := run_bind_some h
  obtain ⟨v, l2, h3, h4⟩ := run_bind_some h2
  have hx := opd_sound hs h1
  have hy := opd_sound hs h3
  rw [hc] at h4
  simp only [cond_true] at h4
  obtain ⟨σ, bb, h5, h6⟩ := tyOf_some h4
  obtain ⟨⟨p, ls⟩, l3, h7, h8⟩ := run_bind_some h6
  obtain ⟨⟨q, ms⟩, l4, h9, h10⟩ := run_bind_some h8
  obtain ⟨r1, r2, _⟩ := lend_sound m σ _ _ _ _ _ _ h7 hx
  obtain ⟨r3, r4, _⟩ := lend_sound m σ _ _ _ _ _ _ h9 hy
  obtain ⟨hl, hb⟩ := hE.cmp _ _ _ h5 hc
  have hag := leafy_agg hl
  obtain ⟨fs, hu, hF⟩ : ∃ fs, P.underlying t = some (.struct fs) ∧ FOk P fs.toList 0 σ := by
    unfold cmpB at hb
    rcases (hE.ok h5).1.aggs hag with h | ⟨n, te, e, h, _⟩
    · exact h
    · rw [h] at hb; simp at hb
  unfold cmpB at hb
  rw [hu] at hb
  simp only [Bool.and_eq_true, Bool.not_eq_true'] at hb
  obtain ⟨b1, b2, b3⟩ := hb
  have hfs : P.fieldsOf t = fs := by unfold Program.fieldsOf; rw [hu]
  have ex : a.eval x = .agg (a.eval x).cells.toList.toArray := by
    conv => lhs; rw [r2]
    unfold Ty.wrap; rw [if_pos hag]
  have ey : a.eval y = .agg (a.eval y).cells.toList.toArray := by
    conv => lhs; rw [r4]
    unfold Ty.wrap; rw [if_pos hag]
  generalize (a.eval x).cells.toList = xs at ex r1
  generalize (a.eval y).cells.toList = ys at ey r3
  have heq : (Op.equalIn 10000 t (.agg xs.toArray) (.agg ys.toArray)).run P w = .ok (eqT σ p q) w := by
    rw [run_equalIn_struct w 9999 t _ _ (by rw [hfs]; exact hu) b1, hfs]
    exact run_eqFields hF hl b3 (by simpa using r1) (by simpa using r3)
  split at h10
  · have := ret_some h10; cases this
    refine ⟨rfl, .bool (eqT σ p q), ?_, rsv_bool.2 rfl⟩
    simp [execOp, ho, ex, ey, Sem.run_bind, run_eqGuard_agg w _ t x y _ _ b2, run_eql_struct, heq, Result.andThen]
  · have := ret_some h10; cases this
    refine ⟨rfl, .bool (!(eqT σ p q)), ?_, rsv_bool.2 rfl⟩
    simp [execOp, ho, ex, ey, Sem.run_bind, run_eqGuard_agg w _ t x y _ _ b2, run_neq_struct, heq, Result.andThen]
  · exact (fail_some h10).elim
end
end Go.Abs
set_option linter.unusedVariables false
set_option linter.unusedSimpArgs false
set_option linter.unnecessarySimpa false
set_option linter.unusedSectionVars false
namespace Go.Abs
open Go

/-- Every operation does as it is told. -/
theorem op_sound {P : Program} {E : Env} (hT : EnvTy P E) (hS : EnvSum P E) : OpSound P E := by
  intro C hC s rv F S G w a n d o e l l' m hs h
  cases ho : o.op with
  | move x => rw [ho] at h; exact Quiet.does m (op_move hs (.inl ho) h)
  | assign x => rw [ho] at h; exact Quiet.does m (op_move hs (.inr ho) h)
  | pick g x y =>
    rw [ho] at h
    cases g with
    | tmp g => exact Quiet.does m (op_pick (t := .tmp g) hs ho h)
    | _ => simp only [op] at h; exact (fail_some h).elim
  | alloc t => rw [ho] at h; exact op_alloc m hs hT ho h
  | box t x => rw [ho] at h; exact op_box m hs hT ho h
  | build t ps => rw [ho] at h; exact Quiet.does m (op_build m hs hT ho h)
  | buildSlice t k ps => rw [ho] at h; exact op_buildSlice m hs hT ho h
  | load t x => rw [ho] at h; exact Quiet.does m (op_load m hs hT ho h)
  | store t x y => rw [ho] at h; exact op_store m hs hT ho h
  | nilCheck x => rw [ho] at h; exact Quiet.does m (op_nilCheck m hs hT ho h)
  | binOp b t x y ty =>
    rw [ho] at h
    cases hc : E.cmp t with
    | true => exact Quiet.does m (op_cmpBin m hs hT ho hc h)
    | false => exact Quiet.does m (op_boolBin hs hT ho hc h)
  | unOp u t x =>
    rw [ho] at h
    cases u with
    | not => exact Quiet.does m (op_not hs ho h)
    | neg => exact Quiet.does m (op_neg hs ho h)
    | _ => simp only [op] at h; exact (fail_some h).elim
  | convert src dst x => rw [ho] at h; exact op_convert m hs hT ho h
  | makeFunc f first caps =>
    rw [ho] at h
    cases f with
    | func f => exact Quiet.does m (op_makeFunc hs ho h)
    | _ => simp only [op] at h; exact (fail_some h).elim
  | makeSlice t x y => rw [ho] at h; exact op_makeSlice m hs hT ho h
  | slice t x lo hi mx =>
    rw [ho] at h
    cases mx with
    | none => exact op_slice m hs hT ho h
    | some mx =>
      cases lo with
      | some _ => simp only [op] at h; exact (fail_some h).elim
      | none =>
        cases hi with
        | none => simp only [op] at h; exact (fail_some h).elim
        | some hi => exact Quiet.does m (op_slice0 m hs hT ho h)
  | fieldAddr t x f => rw [ho] at h; exact Quiet.does m (op_fieldAddr m hs hT ho h)
  | indexAddr t x i => rw [ho] at h; exact Quiet.does m (op_indexAddr m hs hT ho h)
  | index t x i => rw [ho] at h; exact Quiet.does m (op_index hs hT ho h)
  | extract x i => rw [ho] at h; exact Quiet.does m (op_extract hs ho h)
  | call c =>
    rw [ho] at h
    cases hc : c.callee with
    | value g => exact op_call hC m hs hS ho hc h
    | builtin b =>
      cases b with
      | len => exact Quiet.does m (op_len hs hT ho hc m h)
      | max => exact Quiet.does m (op_max hs ho hc h)
      | min => exact Quiet.does m (op_min hs ho hc h)
      | append => exact op_append m hs hT ho hc h
      | _ => simp only [op, hc] at h; exact (fail_some h).elim
    | invoke _ _ => simp only [op, hc] at h; exact (fail_some h).elim
  | _ => rw [ho] at h; simp only [op] at h; exact (fail_some h).elim
end Go.Abs
set_option linter.unusedVariables false
set_option linter.unusedSimpArgs false
set_option linter.unnecessarySimpa false
set_option linter.unusedSectionVars false
namespace Go.Abs
open Go

def toExit : Ex → Exit
  | .normal => .normal
  | .exit i => .exit i
  | .ret => .ret

theorem least {p : Nat → Prop} (h : ∃ m, p m) : ∃ m, p m ∧ ∀ k, p k → m ≤ k := by
  obtain ⟨m, hm⟩ := h
  induction m using Nat.strongRecOn with
  | _ m ih =>
    by_cases h : ∃ k, k < m ∧ p k
    · obtain ⟨k, hk, hp⟩ := h
      exact ih k hk hp
    · exact ⟨m, hm, fun k hk => Nat.le_of_not_lt fun hlt => h ⟨k, hlt, hk⟩⟩

/-- every write goes to a slot -/
def dstOk (lo : List Bool) (N : Nat) : Code → Bool
  | .seq a b => dstOk lo N a && dstOk lo N b
  | .block _ a => dstOk lo N a
  | .loop a => dstOk lo N a
  | .cond _ a b => dstOk lo N a && dstOk lo N b
  | .region _ ops _ => ops.toList.all fun o => match o.dst with | some t => !(lo.getD t false) && Nat.blt t N | none => true
  | _ => true

section
variable {γ : Type}

def inBlk (i : Nat) (K : Nat → Ex → St → Option γ) : Nat → Ex → St → Option γ := fun n ex s' => match ex with
  | .exit j => bif Nat.beq j i then K n .normal s' else K n (.exit j) s'
  | e => K n e s'
def inSeq (E : Env) (L : Nat → Option (Cut γ)) (b : Code) (K : Nat → Ex → St → Option γ) : Nat → Ex → St → Option γ := fun n ex s' => match ex with
  | .normal => match L (2 * headRegion b + 1) with
    | some c => c.go n s'
    | none => evC E L n b s' (K n)
  | e => K n e s'
def inLoop (c : Cut γ) (K : Nat → Ex → St → Option γ) : Nat → Ex → St → Option γ := fun n ex s' => match ex with
  | .normal => c.go n s'
  | e => K n e s'

/-- What is to be shown of the cuts. -/
def obl (E : Env) (L : Nat → Option (Cut γ)) : Code → (Nat → Ex → St → Option γ) → Prop
  | .seq a b, K => obl E L a (inSeq E L b K) ∧ obl E L b K ∧ (match L (2 * headRegion b + 1) with
    | some c => ∀ n x r, c.C n x = some r → evC E L n b (giveCut c.slots c.pars x) (K n) = some r
    | none => True)
  | .block i a, K => obl E L a (inBlk i K)
  | .loop a, K => match L (2 * headRegion a) with
    | some c => (∀ x, c.C 0 x = none) ∧ (∀ n x r, c.C (n + 1) x = some r → evC E L n a (giveCut c.slots c.pars x) (inLoop c K n) = some r) ∧ obl E L a (inLoop c K)
    | none => True
  | .cond _ a b, K => obl E L a K ∧ obl E L b K
  | _, _ => True

theorem frzR_rel {C : Ctx} {s : St} {a : Act} {w : World} (id : Nat) (h : RelE C s a w) : RelE C (frzR s id) a w := by
  obtain ⟨⟨rv, F, S, G, m, hs⟩, hh⟩ := h
  refine ⟨?_, hh⟩
  unfold frzR
  split
  · rename_i r hr
    have hrun : (lay (.list r.τ) 0 (.at id r.ver [])).run s [] = some ((r.xs, [(id, .frz r.τ r.xs)]), [2 * id + 1]) := by
      simp only [lay, Rd.run, hr]
      simp [toTy, Rd.run]
    have hx : RSV w S s.rt rv (.at id r.ver []) (rv id) := by
      simp only [RSV, RAt, hr]
      exact ⟨Nat.le_refl _, fun _ => ⟨trivial, trivial⟩, fun h => absurd rfl h⟩
    obtain ⟨n1, n2, Fl, Sl, sp, _⟩ := lay_sound m (.list r.τ) 0 _ _ _ _ _ _ hrun hx
    obtain ⟨m1, K1⟩ := consume m n1 n2 sp
    exact ⟨rv, _, _, _, m1, fun j => RSV_keep K1 _ _ (hs j)⟩
  · exact ⟨rv, F, S, G, m, hs⟩
theorem frzL_rel {C : Ctx} {a : Act} {w : World} : ∀ (l : List SV) {s : St}, RelE C s a w → RelE C (frzL l s) a w
  | [], s, h => h
  | v :: l, s, h => by
    unfold frzL
    split
    · rename_i e; cases e
    · rename_i e; cases e; exact frzL_rel _ (frzR_rel _ h)
    · rename_i e; cases e; exact frzL_rel _ h
theorem frz1_rel {C : Ctx} {s : St} {a : Act} {w : World} (i : Nat) (h : RelE C s a w) : RelE C (frz1 s i) a w := by
  unfold frz1
  split
  · exact frzR_rel _ h
  · split
    · exact frzL_rel _ h
    · exact h
  · exact h
theorem frzAll_rel {C : Ctx} {a : Act} {w : World} : ∀ (l : List Nat) {s : St}, RelE C s a w → RelE C (frzAll l s) a w
  | [], s, h => h
  | i :: l, s, h => frzAll_rel l (frz1_rel i h)

/-- The code does as it is told. -/
theorem code_sound {P : Program} {E : Env} {L : Nat → Option (Cut γ)} {C : Ctx} (H : OpSound P E) (hC : C.gl = Gl P) (hm : P.follows .mixedOrders = true) {lo : List Bool} {N : Nat} {g : γ} (hfix : ∀ t, lo.getD t false = false → C.fix t = none) : ∀ (c : Code) (K : Nat → Ex → St → Option γ), obl E L c K → dstOk lo N c = true →
    ∀ (n : Nat) (s : St) (a : Act) (w : World) (Q : Exit → Act → World → Prop), evC E L n c s (K n) = some g → RelE C s a w → a.tmps.size = N →
    (∀ n' ex s' a' w', n' ≤ n → K n' ex s' = some g → RelE C s' a' w' → a'.tmps.size = N → Q (toExit ex) a' w') → c.wp P Q a w
  | .skip, K, ho, hd, n, s, a, w, Q, h, hr, hN, hQ => wp_skip (hQ n .normal s a w (Nat.le_refl _) h hr hN)
  | .ret, K, ho, hd, n, s, a, w, Q, h, hr, hN, hQ => wp_ret (hQ n .ret s a w (Nat.le_refl _) h hr hN)
  | .exit i, K, ho, hd, n, s, a, w, Q, h, hr, hN, hQ => wp_exit (hQ n (.exit i) s a w (Nat.le_refl _) h hr hN)
  | .seq x y, K, ho, hd, n, s, a, w, Q, h, hr, hN, hQ => by
    simp only [dstOk, Bool.and_eq_true] at hd
    obtain ⟨o1, o2, o3⟩ := ho
    refine wp_seq (code_sound H hC hm hfix x (inSeq E L y K) o1 hd.1 n s a w _ h hr hN ?_)
    intro n' ex s' a' w' hn hk hr' hN'
    cases ex with
    | normal =>
      show y.wp P Q a' w'
      have step : ∀ s'', evC E L n' y s'' (K n') = some g → RelE C s'' a' w' → y.wp P Q a' w' := fun s'' h' hr'' =>
        code_sound H hC hm hfix y K o2 hd.2 n' s'' a' w' Q h' hr'' hN' fun m ex s3 a3 w3 hm' => hQ m ex s3 a3 w3 (Nat.le_trans hm' hn)
      simp only [inSeq] at hk
      cases hL : L (2 * headRegion y + 1) with
      | none => rw [hL] at hk; exact step s' hk hr'
      | some cc =>
        rw [hL] at hk o3
        obtain ⟨z, hz, hr''⟩ := cut_rel hk hr'
        exact step _ (o3 n' z g hz) hr''
    | exit i => exact hQ n' (.exit i) s' a' w' hn hk hr' hN'
    | ret => exact hQ n' .ret s' a' w' hn hk hr' hN'
  | .block i x, K, ho, hd, n, s, a, w, Q, h, hr, hN, hQ => by
    refine wp_block (code_sound H hC hm hfix x (inBlk i K) ho hd n s a w _ h hr hN ?_)
    intro n' ex s' a' w' hn hk hr' hN'
    cases ex with
    | normal => exact hQ n' .normal s' a' w' hn hk hr' hN'
    | ret => exact hQ n' .ret s' a' w' hn hk hr' hN'
    | exit j =>
      simp only [inBlk] at hk
      show Exit.inBlock i Q (.exit j) a' w'
      simp only [Exit.inBlock]
      cases hj : Nat.beq j i with
      | true =>
        rw [hj] at hk
        rw [if_pos (Nat.eq_of_beq_eq_true hj)]
        exact hQ n' .normal s' a' w' hn hk hr' hN'
      | false =>
        rw [hj] at hk
        rw [if_neg (fun e => by subst e; simp at hj)]
        exact hQ n' (.exit j) s' a' w' hn hk hr' hN'
  | .cond c x y, K, ho, hd, n, s, a, w, Q, h, hr, hN, hQ => by
    simp only [dstOk, Bool.and_eq_true] at hd
    cases c with
    | tmp t =>
      simp only [evC] at h
      split at h
      · rename_i b hb
        have hv : a.eval (.tmp t) = .bool b := by
          obtain ⟨⟨rv, F, S, G, m, hs⟩, _⟩ := hr
          have := hs t
          rw [hb] at this
          exact rsv_bool.1 this
        cases b with
        | true =>
          simp only [cond_true] at h
          rw [St.put_same hb] at h
          exact wp_cond_true hv (code_sound H hC hm hfix x K ho.1 hd.1 n s a w Q h hr hN hQ)
        | false =>
          simp only [cond_false] at h
          rw [St.put_same hb] at h
          exact wp_cond_false hv (code_sound H hC hm hfix y K ho.2 hd.2 n s a w Q h hr hN hQ)
      · cases h
    | _ => simp [evC] at h
  | .region i ops draw, K, ho, hd, n, s, a, w, Q, h, hr, hN, hQ => by
    refine region_sound H hC hm (N := N) (γ := γ) (k := K n .normal) (g := g) (s := frzAll (E.frz i) s) ?_ h (frzAll_rel _ hr) hN fun s' a' w' hk hr' hN' => hQ n .normal s' a' w' (Nat.le_refl _) hk hr' hN'
    intro j o hj t ht
    simp only [dstOk, List.all_eq_true] at hd
    have := hd o (Array.mem_toList_iff.2 (Array.mem_of_getElem? hj))
    rw [ht] at this
    simp only [Bool.and_eq_true, Bool.not_eq_true'] at this
    exact ⟨Nat.le_of_ble_eq_true this.2, hfix t this.1⟩
  | .loop x, K, ho, hd, n, s, a, w, Q, h, hr, hN, hQ => by
    simp only [evC] at h
    simp only [obl] at ho
    cases hL : L (2 * headRegion x) with
    | none => rw [hL] at h; cases h
    | some cc =>
      rw [hL] at h ho
      obtain ⟨o1, o2, o3⟩ := ho
      simp only at h
      classical
      let J : Nat → Act → World → Prop := fun m a w => m ≤ n ∧ ∃ s', cc.go m s' = some g ∧ RelE C s' a w
      let μ : Act → World → Nat := fun a w => if h : ∃ m, J m a w then (least h).choose else 0
      refine wp_loop (fun a w => a.tmps.size = N ∧ ∃ m, J m a w) μ ⟨hN, n, Nat.le_refl _, s, h, hr⟩ ?_
      rintro a w ⟨hN, hJ⟩
      have hμ : μ a w = (least hJ).choose := dif_pos hJ
      obtain ⟨hmn, s', hg, hr⟩ := (least hJ).choose_spec.1
      obtain ⟨z, hz, hr''⟩ := cut_rel hg hr
      generalize (least hJ).choose = m at hμ hmn hg hz
      cases m with
      | zero => rw [o1] at hz; cases hz
      | succ m =>
        refine code_sound H hC hm hfix x (inLoop cc K) o3 hd m _ a w _ (o2 m z g hz) hr'' hN ?_
        intro n' ex s2 a' w' hn hk hr' hN'
        cases ex with
        | normal =>
          have hJ' : ∃ m, J m a' w' := ⟨n', by omega, s2, hk, hr'⟩
          refine ⟨⟨hN', hJ'⟩, ?_⟩
          rw [hμ]
          have e : μ a' w' = (least hJ').choose := dif_pos hJ'
          rw [e]
          have : (least hJ').choose ≤ n' := (least hJ').choose_spec.2 n' ⟨by omega, s2, hk, hr'⟩
          omega
        | exit i => exact hQ n' (.exit i) s2 a' w' (by omega) hk hr' hN'
        | ret => exact hQ n' .ret s2 a' w' (by omega) hk hr' hN'
  | .goto _, K, ho, hd, n, s, a, w, Q, h, hr, hN, hQ | .label _, K, ho, hd, n, s, a, w, Q, h, hr, hN, hQ => by simp [evC] at h
  | .scope _, K, ho, hd, n, s, a, w, Q, h, hr, hN, hQ => by simp [evC] at h
  | .rangeFunc .., K, ho, hd, n, s, a, w, Q, h, hr, hN, hQ => by simp [evC] at h
end
end Go.Abs
set_option linter.unusedVariables false
set_option linter.unusedSimpArgs false
set_option linter.unnecessarySimpa false
set_option linter.unusedSectionVars false
namespace Go.Abs
open Go

def layRes : (l : List (Nat × Ty)) → List SV → Rd (DL (l.map (·.2)) × List (Nat × RSt))
  | [], [] => .ret ((), [])
  | (d, τ) :: r, v :: vs => (lay τ d v).bind fun (x, l) => (layRes r vs).bind fun (y, m) => .chk (apartIds l m) (.ret (DL.cons x y, l ++ m))
  | _, _ => .fail

/-- a result's value -/
def resSV (E : Env) : ResultVar → Rd SV
  | .tmp t => .sl t .ret
  | .cell t ty => tyOf E ty fun σ _ => .sl t fun
    | .bp id [] => .rt id fun
      | .box τ c => if τ = σ then .ret c else .fail
      | _ => .fail
    | _ => .fail
def resSVs (E : Env) : List ResultVar → Rd (List SV)
  | [] => .ret []
  | r :: rs => (resSV E r).bind fun v => (resSVs E rs).bind fun vs => .ret (v :: vs)

/-- What a function hands out at its end. -/
def fin (E : Env) (sm : Sum) (rs : List ResultVar) (k : Nat) : Nat → Ex → St → Option (DL (sm.res.map (·.2) ++ sm.pars.outs)) := fun _ ex s =>
  match ex with
  | .exit _ => none
  | _ => ((resSVs E rs).bind fun vs => layRes sm.res vs).ev s [] fun q s _ => (takeP.takeL sm.pars.outTop ((List.range k).map s.sl)).ev s [] fun t _ _ =>
    cond (noneOf (ids q.2) (idsOf t.dead t.back) && noneOf (ids q.2) t.lent) (some (DL.app q.1 t.x)) none

section
variable {C : Ctx} {s : St} {rv : Nat → Value} {F : Nat → Fp} {S G : Fp} {w : World} {P : Program} {E : Env} {a : Act}

theorem lay_wrap (m : Mem C s.rt rv F S G w) : ∀ (τ : Ty) (d : Nat) (sv : SV) (l l' : List Nat) (q : τ.den × RL) (v : Value), (lay τ d sv).run s l = some (q, l') → RSV w S s.rt rv sv v → v = τ.wrap v.cells.toList := by
  intro τ d sv l l' q v h hv
  have plain : ∀ (σ : Ty) (y : σ.den), sv = .val σ y → v = τ.wrap v.cells.toList := by
    intro σ y e
    subst e
    have h' : (match toTy τ ⟨σ, y⟩ with
      | some y => bif Nat.beq d 0 || τ.flat then Rd.ret (y, ([] : RL)) else .fail
      | none => .fail).run s l = some (q, l') := by cases τ <;> exact h
    split at h'
    · rename_i z hz
      have e := toTy_some hz
      cases e
      simp only [RSV] at hv
      obtain ⟨cs, h1, rfl⟩ := hv
      rw [wrap_cells h1]
    · exact (fail_some h').elim
  cases sv with
  | val σ y => exact plain σ y rfl
  | nil =>
    simp only [RSV] at hv
    obtain ⟨A, rfl⟩ := hv
    cases τ with
    | list e => rfl
    | _ => simp only [lay] at h; exact (fail_some h).elim
  | «at» id ver p =>
    cases τ with
    | list e =>
      cases p with
      | cons _ _ => simp only [lay] at h; exact (fail_some h).elim
      | nil =>
        simp only [lay, Rd.run] at h
        simp only [RSV, RAt] at hv
        cases hr : s.rt id <;> simp only [hr] at h <;> try exact (fail_some h).elim
        · rw [hr] at hv
          obtain ⟨A, c, e1⟩ := root_slice (m.frz id _ _ hr)
          rw [hv trivial, e1]; rfl
        · rw [hr] at hv
          obtain ⟨A, c, e1⟩ := root_slice (m.live id _ hr)
          rw [(hv.2.1 rfl).2, e1]; rfl
    | _ => simp only [lay] at h; exact (fail_some h).elim
  | agg vs =>
    simp only [RSV] at hv
    obtain ⟨us, _, rfl⟩ := hv
    cases τ with
    | one f => simp [Ty.wrap, Ty.isAgg, Value.cells]
    | pair f r => simp [Ty.wrap, Ty.isAgg, Value.cells]
    | _ => simp only [lay] at h; exact (fail_some h).elim
  | _ => cases τ <;> simp only [lay] at h <;> exact (fail_some h).elim

theorem layRes_sound (m : Mem C s.rt rv F S G w) : ∀ (res : List (Nat × Ty)) (vs : List SV) (l l' : List Nat) (q : DL (res.map (·.2)) × RL) (us : List Value), (layRes res vs).run s l = some (q, l') → RSVs w S s.rt rv vs us →
    (ids q.2).Nodup ∧ Takes s.rt q.2 ∧ ∃ Fl Sl, Split q.2 F Fl Sl ∧ ResL w (fun b => S b ∨ Sl b) res q.1 us Fl
  | [], [], l, l', q, us, h, hv => by
    have := ret_some h; cases this
    simp only [RSVs] at hv
    exact ⟨List.nodup_nil, (fun _ _ h => nomatch h), _, _, Split.nil F, hv, fun _ h => h⟩
  | [], _ :: _, l, l', q, us, h, hv => (fail_some h).elim
  | (d, τ) :: res, [], l, l', q, us, h, hv => (fail_some h).elim
  | (d, τ) :: res, v :: vs, l, l', q, us, h, hv => by
    simp only [layRes] at h
    obtain ⟨⟨x, l1⟩, k1, h1, h2⟩ := run_bind_some h
    obtain ⟨⟨y, l2⟩, k2, h3, h4⟩ := run_bind_some h2
    obtain ⟨h5, h6⟩ := chk_some h4
    have := ret_some h6; cases this
    simp only [RSVs] at hv
    obtain ⟨u, us', rfl, hu, hus⟩ := hv
    obtain ⟨a1, a2, Fl, Sl, a3, a4⟩ := lay_sound m τ d v _ _ x l1 u h1 hu
    have hw := lay_wrap m τ d v _ _ _ u h1 hu
    obtain ⟨b1, b2, Fm, Sm, b3, b4⟩ := layRes_sound m res vs _ _ (y, l2) us' h3 hus
    refine ⟨nodup_app a1 b1 h5, a2.app b2, _, _, a3.app m h5 b3, u.cells.toList, us', Fl, Fm, by rw [← hw], ?_, ?_, ?_, fun _ => Iff.rfl⟩
    · rw [DL.head_cons]
      exact rep_mono (fun b hb => hb.imp (fun h => h) .inl) a4
    · rw [DL.tail_cons]
      have mono : ∀ {S S' : Fp} (hS : ∀ b, S b → S' b) {res : List (Nat × Ty)} {y : DL (res.map (·.2))} {us : List Value} {F : Fp}, ResL w S res y us F → ResL w S' res y us F := by
        intro S S' hS res
        induction res with
        | nil => intro y us F h; exact h
        | cons p r ih =>
          obtain ⟨d, τ⟩ := p
          intro y us F h
          obtain ⟨cs, us', F1, F2, h1, h2, h3, h4, h5⟩ := h
          exact ⟨cs, us', F1, F2, h1, rep_mono hS h2, ih h3, h4, h5⟩
      exact mono (fun b hb => hb.imp (fun h => h) .inr) b4
    · intro b hb hc
      exact taken_apart m h5 (a3.fl b hb) (b3.fl b hc)

/-- the results, read -/
theorem resSVs_sound (hT : EnvTy P E) (m : Mem C s.rt rv F S G w) (hs : ∀ i, RSV w S s.rt rv (s.sl i) (a.tmps.getD i undef)) {f : ResultVar → Sem Value} (hf1 : ∀ t, f (.tmp t) = pure (a.tmps.getD t undef))
    (hf2 : ∀ t ty, f (.cell t ty) = do loadVar ty (← asAddr (a.tmps.getD t undef))) : ∀ (rs : List ResultVar) (vs : List SV) (l l' : List Nat), (resSVs E rs).run s l = some (vs, l') →
    ∃ us, (rs.mapM f).run P w = .ok us w ∧ RSVs w S s.rt rv vs us
  | [], vs, l, l', h => by
    simp only [resSVs] at h
    have := ret_some h; cases this
    exact ⟨[], by simp, rfl⟩
  | r :: rs, vs, l, l', h => by
    simp only [resSVs] at h
    obtain ⟨v, l1, h1, h2⟩ := run_bind_some h
    obtain ⟨vs', l2, h3, h4⟩ := run_bind_some h2
    have := ret_some h4; cases this
    obtain ⟨us, g1, g2⟩ := resSVs_sound hT m hs hf1 hf2 rs vs' _ _ h3
    have key : ∃ u, (f r).run P w = .ok u w ∧ RSV w S s.rt rv v u := by
      cases r with
      | tmp t =>
        simp only [resSV, Rd.run] at h1
        simp only [Option.some.injEq, Prod.mk.injEq] at h1
        obtain ⟨rfl, _⟩ := h1
        exact ⟨_, by rw [hf1]; simp, hs t⟩
      | cell t ty =>
        simp only [resSV] at h1
        obtain ⟨σ, bb, h5, h6⟩ := tyOf_some h1
        have ht := (hT.ok h5).1
        simp only [Rd.run] at h6
        have hst := hs t
        split at h6
        · rename_i id hid
          rw [hid] at hst
          simp only [Rd.run] at h6
          simp only [RSV, RBp] at hst
          cases hr : s.rt id with
          | box τ cc =>
            rw [hr] at hst h6
            simp only at h6 hst
            split at h6
            · rename_i he
              subst he
              have := ret_some h6; cases this
              obtain ⟨b, τ', δ, q1, q2, q3⟩ := hst
              simp [fldPath] at q2
              obtain ⟨rfl, rfl⟩ := q2
              obtain ⟨b', arr, k1, k2, k3, k4, k6⟩ := m.box id τ _ hr
              obtain rfl : b' = b := by rw [q1] at k1; cases k1; rfl
              refine ⟨τ.wrap arr.toList, ?_, (BRep_rsv k6).1⟩
              rw [hf2, q3]
              have hl := run_loadAt (P := P) ht k2.has (o := 0) (by omega)
              have e : seg arr 0 τ.size = arr.toList := by
                unfold seg
                rw [List.drop_zero, List.take_of_length_le (by simp; omega)]
              rw [e] at hl
              simpa [Instr.loadAt, Instr.sureAddr, asAddr, Sem.run_bind] using hl
            · exact (fail_some h6).elim
          | _ => rw [hr] at h6; exact (fail_some h6).elim
        · exact (fail_some h6).elim
    obtain ⟨u, k1, k2⟩ := key
    refine ⟨u :: us, ?_, ?_⟩
    · rw [List.mapM_cons]
      simp only [Sem.run_bind, Sem.run_pure, Result.andThen, k1, g1]
    · simp only [RSVs]; exact ⟨u, us, rfl, k2, g2⟩

theorem run_results (hT : EnvTy P E) (m : Mem C s.rt rv F S G w) (hs : ∀ i, RSV w S s.rt rv (s.sl i) (a.tmps.getD i undef)) {fn : Func} {rs : List ResultVar} (h : fn.results = rs.toArray) {vs : List SV} {l l' : List Nat}
    (hv : (resSVs E rs).run s l = some (vs, l')) : ∃ us, (results fn a.tmps).run P w = .ok (retV us) w ∧ RSVs w S s.rt rv vs us := by
  have key : ∀ (f : ResultVar → Sem Value), (∀ t, f (.tmp t) = pure (a.tmps.getD t undef)) → (∀ t ty, f (.cell t ty) = do loadVar ty (← asAddr (a.tmps.getD t undef))) →
      ∃ us, Sem.run P (do let vs ← rs.toArray.mapM f; pure (if h : vs.size = 1 then vs[0] else .tuple vs)) w = .ok (retV us) w ∧ RSVs w S s.rt rv vs us := by
    intro f hf1 hf2
    obtain ⟨us, g1, g2⟩ := resSVs_sound (P := P) hT m hs hf1 hf2 rs vs _ _ hv
    refine ⟨us, ?_, g2⟩
    simp only [Array.mapM_eq_mapM_toList, Sem.run_bind, Sem.run_map, g1, Result.andThen]
    match us with
    | [] => rfl
    | [v] => rfl
    | v :: v' :: us => simp [retV, Sem.run_pure]
  unfold results
  rw [h]
  exact key _ (fun _ => rfl) (fun _ _ => rfl)

/-- A function's end. -/
theorem fin_sound (hT : EnvTy P E) {fn : Func} {sm : Sum} {rs : List ResultVar} (hres : fn.results = rs.toArray) {k n : Nat} {ex : Ex} {y : DL (sm.res.map (·.2) ++ sm.pars.outs)} (h : fin E sm rs k n ex s = some y) (hr : RelE C s a w) (hf : ∀ b, C.S0 b → b < C.w0.heap.size)
    {args : List Value} (hargs : (List.range k).map (fun i => a.tmps.getD i undef) = args) :
    ∃ us S' Fr Fo, (results fn a.tmps).run P w = .ok (retV us) w ∧ Went C.w0 w C.S0 (fun _ => False) C.Fin S' Fr Fo ∧ ResL w S' sm.res (DL.left y) us Fr ∧ ArgL w S' sm.pars.outTop (DL.right y) args Fo := by
  obtain ⟨⟨rv, F, S, G, m, hs⟩, hd⟩ := hr
  have h' : (((resSVs E rs).bind fun vs => layRes sm.res vs).ev s [] fun q s _ => (takeP.takeL sm.pars.outTop ((List.range k).map s.sl)).ev s [] fun t _ _ =>
    cond (noneOf (ids q.2) (idsOf t.dead t.back) && noneOf (ids q.2) t.lent) (some (DL.app q.1 t.x)) none) = some y := by cases ex <;> first | exact h | (simp [fin] at h)
  rw [Rd.ev_run] at h'
  obtain ⟨⟨q, l1⟩, h10, h2⟩ := Option.bind_eq_some_iff.1 h'
  obtain ⟨vs, l0, h00, h1⟩ := run_bind_some h10
  obtain ⟨us, hu1, hu2⟩ := run_results hT m hs hres h00
  simp only at h2
  rw [Rd.ev_run] at h2
  obtain ⟨⟨t, l2⟩, h3, h4⟩ := Option.bind_eq_some_iff.1 h2
  simp only at h4
  cases hc : noneOf (ids q.2) (idsOf t.dead t.back) && noneOf (ids q.2) t.lent with
  | false => rw [hc] at h4; cases h4
  | true =>
    rw [hc] at h4
    have h5 : y = DL.app q.1 t.x := (Option.some.inj h4).symm
    subst h5
    simp only [Bool.and_eq_true] at hc
    obtain ⟨n1, n2⟩ := hc
    have N1 := noneOf_spec n1
    have N2 := noneOf_spec n2
    obtain ⟨a1, a2, Fl, Sl, a3, a4⟩ := layRes_sound m sm.res _ _ _ q _ h1 hu2
    obtain ⟨Fo, So, _, b1, b2, _⟩ := takeL_sound m sm.pars.outTop _ _ _ t _ h3 (RSVs_slots hs (List.range k))
    rw [hargs] at b2
    have inl : ∀ {b}, taken q.2 F b → ∃ i, i ∈ ids q.2 ∧ F i b := fun ⟨i, st, hi, hb⟩ => ⟨i, mem_ids.2 ⟨st, hi⟩, hb⟩
    have dead_in : ∀ {i}, i ∈ ids t.dead → i ∈ idsOf t.dead t.back := fun h => List.mem_append_left _ h
    have resmono : ∀ {S S' : Fp} (hS : ∀ b, S b → S' b) {res : List (Nat × Ty)} {y : DL (res.map (·.2))} {us : List Value} {F : Fp}, ResL w S res y us F → ResL w S' res y us F := by
      intro S S' hS res
      induction res with
      | nil => intro y us F h; exact h
      | cons p r ih =>
        obtain ⟨d, τ⟩ := p
        intro y us F h
        obtain ⟨cs, us', F1, F2, h1, h2, h3, h4, h5⟩ := h
        exact ⟨cs, us', F1, F2, h1, rep_mono hS h2, ih h3, h4, h5⟩
    refine ⟨us, fun b => S b ∨ Sl b ∨ So b ∨ ∃ i ∈ t.lent, F i b, Fl, Fo, hu1, ⟨m.frame, m.size, m.same, ?_, ?_, ?_, ?_, ?_⟩, ?_, ?_⟩
    · rintro b (hb | hb)
      · exact .inl (m.s0 b hb)
      · exact hb.elim
    · rintro b (hb | hb | hb | ⟨i, hi, hb⟩)
      · exact (m.shr b hb).imp (fun h => h) .inr
      · obtain ⟨i, _, hb⟩ := inl (a3.sl b hb)
        exact .inr (.inr (m.own i b (.inl hb)))
      · obtain ⟨i, _, hb⟩ := b1.sl b hb
        exact .inr (.inr (m.own i b (.inl hb)))
      · exact .inr (.inr (m.own i b (.inl hb)))
    · rintro b (hb | hb | hb | ⟨i, hi, hb⟩)
      · exact m.slt b hb
      · obtain ⟨i, _, hb⟩ := inl (a3.sl b hb)
        exact m.lt hb
      · obtain ⟨i, _, hb⟩ := b1.sl b hb
        exact m.lt hb
      · exact m.lt hb
    · rintro b (hb | hb)
      · obtain ⟨i, hi, hbi⟩ := inl (a3.fl b hb)
        refine ⟨m.own i b (.inl hbi), ?_, m.lt hbi⟩
        rintro (hc | hc | hc | ⟨j, hj, hc⟩)
        · exact (m.sep i b hbi).1 hc
        · exact a3.apart b hb hc
        · obtain ⟨j, hj, hc⟩ := b1.sl b hc
          have := m.dis i j b hbi hc
          subst this
          exact N1 i hi (dead_in hj)
        · have := m.dis i j b hbi hc
          subst this
          exact N2 i hi hj
      · obtain ⟨i, hi, hbi⟩ := b1.fa b hb
        refine ⟨m.own i b (.inl hbi), ?_, m.lt hbi⟩
        rintro (hc | hc | hc | ⟨j, hj, hc⟩)
        · exact (m.sep i b hbi).1 hc
        · obtain ⟨j, hj, hc⟩ := inl (a3.sl b hc)
          have := m.dis i j b hbi hc
          subst this
          exact N1 i hj hi
        · exact b1.apart b hb hc
        · exact b1.lentA b hb j hj hc
    · intro b hb hc
      obtain ⟨i, hi, hbi⟩ := inl (a3.fl b hb)
      obtain ⟨j, hj, hbj⟩ := b1.fa b hc
      have := m.dis i j b hbi hbj
      subst this
      exact N1 i hi hj
    · have e : DL.left (DL.app q.1 t.x) = q.1 := DL.left_app
      have base := resmono (S' := fun b => S b ∨ Sl b ∨ So b ∨ ∃ i ∈ t.lent, F i b) (fun b hb => hb.imp (fun h => h) .inl) a4
      rw [← e] at base
      exact base
    · have e : DL.right (DL.app q.1 t.x) = t.x := DL.right_app
      have b3 := ArgL_mono (S' := fun b => S b ∨ Sl b ∨ So b ∨ ∃ i ∈ t.lent, F i b) (fun b hb => hb.imp (fun h => h) .inr) b2
      rw [← e] at b3
      exact b3

/-- the cuts' codes, each with what is behind it -/
def conts {γ : Type} (E : Env) (L : Nat → Option (Cut γ)) : Code → (Nat → Ex → St → Option γ) → List (Nat × (Nat → St → Option γ))
  | .seq a b, K => (2 * headRegion b + 1, fun n s => evC E L n b s (K n)) :: (conts E L a (inSeq E L b K) ++ conts E L b K)
  | .block i a, K => conts E L a (inBlk i K)
  | .loop a, K => match L (2 * headRegion a) with
    | some c => (2 * headRegion a, fun n s => evC E L n a s (inLoop c K n)) :: conts E L a (inLoop c K)
    | none => []
  | .cond _ a b, K => conts E L a K ++ conts E L b K
  | _, _ => []

def okCut {γ : Type} (L : Nat → Option (Cut γ)) (p : Nat × (Nat → St → Option γ)) : Prop := match L p.1 with
  | some c => bif Nat.beq (p.1 % 2) 0 then (∀ x, c.C 0 x = none) ∧ ∀ n x r, c.C (n + 1) x = some r → p.2 n (giveCut c.slots c.pars x) = some r
    else ∀ n x r, c.C n x = some r → p.2 n (giveCut c.slots c.pars x) = some r
  | none => True

theorem obl_of {γ : Type} {L : Nat → Option (Cut γ)} : ∀ (c : Code) (K : Nat → Ex → St → Option γ), (∀ p ∈ conts E L c K, okCut L p) → obl E L c K
  | .seq a b, K, h => by
    simp only [conts] at h
    refine ⟨obl_of a _ fun p hp => h p (List.mem_cons_of_mem _ (List.mem_append_left _ hp)), obl_of b _ fun p hp => h p (List.mem_cons_of_mem _ (List.mem_append_right _ hp)), ?_⟩
    have := h _ (List.mem_cons_self ..)
    unfold okCut at this
    split
    · rename_i c hc
      simp only at this
      rw [hc] at this
      have e : Nat.beq ((2 * headRegion b + 1) % 2) 0 = false := by rw [show (2 * headRegion b + 1) % 2 = 1 by omega]; rfl
      simp only [e, cond_false] at this
      exact this
    · trivial
  | .block i a, K, h => obl_of a _ h
  | .loop a, K, h => by
    simp only [conts] at h
    simp only [obl]
    cases hc : L (2 * headRegion a) with
    | none => trivial
    | some c =>
      rw [hc] at h
      simp only at h
      have := h _ (List.mem_cons_self ..)
      unfold okCut at this
      simp only at this
      rw [hc] at this
      have e : Nat.beq ((2 * headRegion a) % 2) 0 = true := by rw [show (2 * headRegion a) % 2 = 0 by omega]; rfl
      simp only [e, cond_true] at this
      exact ⟨this.1, this.2, obl_of a _ fun p hp => h p (List.mem_cons_of_mem _ hp)⟩
  | .cond _ a b, K, h => ⟨obl_of a _ fun p hp => h p (List.mem_append_left _ hp), obl_of b _ fun p hp => h p (List.mem_append_right _ hp)⟩
  | .skip, K, h | .ret, K, h | .exit _, K, h | .region .., K, h | .goto _, K, h | .label _, K, h | .scope _, K, h | .rangeFunc .., K, h | .refuse _, K, h => trivial

/-- A function's contract, from its code's obligations. -/
theorem keeps_of (hT : EnvTy P E) {f : FuncId} {fn : Func} {c : Code} {sm : Sum} {rs : List ResultVar} {k : Nat} {lo : List Bool} {L : Nat → Option (Cut (DL (sm.res.map (·.2) ++ sm.pars.outs)))} (H : OpSound P E) (hm : P.follows .mixedOrders = true)
    (hf : P.funcs[f]? = some fn) (hb : fn.body = some c) (hres : fn.results = rs.toArray) (hk : k ≤ fn.ntmps)
    (hlen : ∀ w S x args F, ArgL w S sm.pars x args F → args.length = k) 
    (ho : obl E L c (fin E sm rs k)) (hd : dstOk lo fn.ntmps c = true) (hrun : ∀ n x y, sm.run n x = some y → evC E L n c (giveSt (List.range k) sm.pars x) (fin E sm rs k n) = some y)
    (hback : ∀ (w : World) (S' : Fp) (y : DL sm.pars.outTop.ins) (args args' : List Value) (F : Fp), args'.length = args.length → (∀ i, i < k → lo.getD i false = true → args'.getD i undef = args.getD i undef) → ArgL w S' sm.pars.outTop y args' F → ArgL w S' sm.pars.outTop y args F) : Keeps P f sm := by
  intro n w args x y S Fa hy ha hdis hS hFa hgl
  have hl := hlen _ _ _ _ _ ha
  refine calls_of_wp hf hb ?_
  have hN : (args.toArray ++ Array.replicate (fn.ntmps - args.toArray.size) undef).size = fn.ntmps := by simp; omega
  have hget : ∀ i, i < k → (args.toArray ++ Array.replicate (fn.ntmps - args.toArray.size) undef).getD i undef = args.getD i undef := by
    intro i hi
    rw [Array.getD_eq_getD_getElem?, Array.getElem?_append_left (by simp; omega)]
    simp [List.getD]
  have hslots : (List.range k).map (fun i => (args.toArray ++ Array.replicate (fn.ntmps - args.toArray.size) undef).getD i undef) = args := by
    apply List.ext_getElem
    · simp [hl]
    · intro i h1 h2
      simp only [List.getElem_map, List.getElem_range]
      rw [hget i (by simpa using h1)]
      simp [List.getD, h2]
  let C : Ctx := ⟨w, Fa, S, fun i => if lo.getD i false = true then some ((args.toArray ++ Array.replicate (fn.ntmps - args.toArray.size) undef).getD i undef) else none, Gl P⟩
  have m0 : Mem C (fun _ => .none) (fun _ => undef) (fun _ _ => False) S Fa w :=
    { live := fun _ _ h => by cases h
      frz := fun _ _ _ h => by cases h
      box := fun _ _ _ h => by cases h
      hole := fun _ _ _ h => by cases h
      none := fun _ _ h => h.elim
      dis := fun _ _ _ h => h.elim
      sep := fun _ _ h => h.elim
      gsep := hdis
      glt := hFa
      slt := hS
      same := ⟨rfl, rfl, rfl⟩
      size := Nat.le_refl _
      frame := fun _ _ _ => rfl
      own := fun _ b h => .inl (h.elim (fun h => h.elim) fun h => h)
      s0 := fun _ h => h
      shr := fun _ h => .inl h
      ok := ⟨fun b hb => ⟨hS b hb, fun hc => hdis b hc hb⟩, hgl, gl_mono⟩ }
  have hr : RelE C (giveSt (List.range k) sm.pars x) { tmps := args.toArray ++ Array.replicate (fn.ntmps - args.toArray.size) undef, defers := [] } w :=
    giveSt_rel m0 (by rw [hslots]; exact ha) ⟨rfl, fun i v hi => by
      simp only [C] at hi
      split at hi
      · exact Option.some.inj hi
      · cases hi⟩
  refine code_sound H (C := C) rfl hm (lo := lo) (fun t ht => if_neg (by rw [ht]; simp)) c (fin E sm rs k) ho hd n _ _ w _ (hrun n x y hy) hr hN ?_
  intro n' ex s' a' w' hn hk hr' hN'
  have hargs : ∃ args', args'.length = args.length ∧ (List.range k).map (fun i => a'.tmps.getD i undef) = args' ∧ (∀ i, i < k → lo.getD i false = true → args'.getD i undef = args.getD i undef) := by
    refine ⟨_, by simp [hl], rfl, fun i hi ho => ?_⟩
    have h1 : C.fix i = some ((args.toArray ++ Array.replicate (fn.ntmps - args.toArray.size) undef).getD i undef) := by simp only [C]; rw [if_pos ho]
    have h2 := hr'.2.2 i _ h1
    rw [hget i hi] at h2
    rw [← h2]
    simp [List.getD, hi]
  obtain ⟨args', g1, g2, g3⟩ := hargs
  obtain ⟨us, S', Fr, Fo, k0, k1, k2, k3⟩ := fin_sound hT hres hk hr' hS g2
  have k4 : ArgL w' S' sm.pars.outTop (DL.right y) args Fo := hback _ _ _ _ _ _ g1 g3 k3
  have post : a'.defers = [] ∧ ∃ v, (results fn a'.tmps).run P w' = .ok v w' ∧ ∃ us S' Fr Fo, Ending.returned v = .returned (retV us) ∧ Went w w' S (fun _ => False) Fa S' Fr Fo ∧ ResL w' S' sm.res (DL.left y) us Fr ∧ ArgL w' S' sm.pars.outTop (DL.right y) args Fo :=
    ⟨hr'.2.1, _, k0, us, S', Fr, Fo, rfl, k1, k2, k4⟩
  cases ex with
  | normal => exact post
  | ret => exact post
  | exit i => simp [fin] at hk

def Par.len : Par → Nat
  | .cons _ b => b.len + 1
  | _ => 0

theorem ArgL_len : ∀ {p : Par} {x : DL p.ins} {us : List Value} {F : Fp}, ArgL w S p x us F → us.length = p.len
  | .nil, x, us, F, h => by simp only [ArgL] at h; rw [h.1]; rfl
  | .cons a b, x, us, F, h => by
    simp only [ArgL] at h
    obtain ⟨u, us', F1, F2, rfl, _, h, _⟩ := h
    simp only [List.length_cons, Par.len, ArgL_len h]
  | .val _, x, us, F, h | .own _ _, x, us, F, h | .io _ _, x, us, F, h | .box _ _, x, us, F, h | .agg _, x, us, F, h | .fn _ _, x, us, F, h | .any _, x, us, F, h | .skip, x, us, F, h => by simp [ArgL] at h

theorem noOut_skip : ∀ {p : Par} {y : DL p.outTop.ins} {v v' : Value} {F : Fp}, p.hasOut = false → Arg w S p.outTop y v F → Arg w S p.outTop y v' F
  | .io _ _, y, v, v', F, ho, h => by simp [Par.hasOut] at ho
  | .box _ _, y, v, v', F, ho, h => by simp [Par.hasOut] at ho
  | .fn f p, y, v, v', F, ho, h => by
    have e : (Par.fn f p).outTop = .skip := by simp only [Par.hasOut] at ho; simp [Par.outTop, ho]
    revert y
    rw [e]
    intro y h
    simp only [Arg] at h ⊢
    exact h
  | .agg p, y, v, v', F, ho, h => by
    have e : (Par.agg p).outTop = .skip := by simp only [Par.hasOut] at ho; simp [Par.outTop, ho]
    revert y
    rw [e]
    intro y h
    simp only [Arg] at h ⊢
    exact h
  | .val _, y, v, v', F, ho, h | .own _ _, y, v, v', F, ho, h | .any _, y, v, v', F, ho, h | .skip, y, v, v', F, ho, h => by simp only [Par.outTop, Arg] at h ⊢; exact h
  | .nil, y, v, v', F, ho, h => by simp [Par.outTop, Arg] at h
  | .cons _ _, y, v, v', F, ho, h => by simp [Par.outTop, Arg] at h

/-- which parameters come back -/
def Par.outAt : Par → List Bool
  | .cons a b => a.hasOut :: b.outAt
  | _ => []

theorem noOut_back : ∀ {p : Par} {y : DL p.outTop.ins} {us us' : List Value} {F : Fp}, us'.length = us.length → (∀ i, i < p.len → p.outAt.getD i false = true → us'.getD i undef = us.getD i undef) → ArgL w S p.outTop y us' F → ArgL w S p.outTop y us F
  | .nil, y, us, us', F, hl, ho, h => by
    simp only [Par.outTop, ArgL] at h ⊢
    obtain ⟨rfl, h⟩ := h
    exact ⟨List.length_eq_zero_iff.1 hl.symm, h⟩
  | .cons a b, y, us, us', F, hl, ho, h => by
    simp only [Par.outTop, ArgL] at h ⊢
    obtain ⟨u, us1, F1, F2, rfl, h1, h2, h3, h4⟩ := h
    match us, hl with
    | v :: us, hl =>
      refine ⟨v, us, F1, F2, rfl, ?_, noOut_back (by simpa using hl) (fun i hi hb => ?_) h2, h3, h4⟩
      · cases hh : a.hasOut with
        | false => exact noOut_skip hh h1
        | true =>
          have := ho 0 (by simp [Par.len]) (by simp [Par.outAt, hh])
          simp at this
          rw [← this]; exact h1
      · have := ho (i + 1) (by simp [Par.len]; exact hi) (by simpa [Par.outAt] using hb)
        simpa using this
  | .fn f p, y, us, us', F, hl, ho, h => by
    exfalso
    revert y
    cases hp : p.hasOut <;> simp [Par.outTop, hp, ArgL]
  | .agg p, y, us, us', F, hl, ho, h => by
    exfalso
    revert y
    cases hp : p.hasOut <;> simp [Par.outTop, hp, ArgL]
  | .val _, y, us, us', F, hl, ho, h | .own _ _, y, us, us', F, hl, ho, h | .io _ _, y, us, us', F, hl, ho, h | .box _ _, y, us, us', F, hl, ho, h | .any _, y, us, us', F, hl, ho, h | .skip, y, us, us', F, hl, ho, h => by simp [Par.outTop, ArgL] at h

/-- what can be looked up of a function -/
def fnOk (fn : Func) (sm : Sum) (c : Code) : Bool :=
  Nat.ble sm.pars.len fn.ntmps && dstOk sm.pars.outAt fn.ntmps c && !(fn.name == "runtime.NumGoroutine")

/-- A function meets its contract. -/
theorem meets_of (hT : EnvTy P E) {f : FuncId} {fn : Func} {c : Code} {sm : Sum} {rs : List ResultVar} {L : Nat → Option (Cut (DL (sm.res.map (·.2) ++ sm.pars.outs)))} (H : OpSound P E) (hm : P.follows .mixedOrders = true)
    (hf : P.funcs[f]? = some fn) (hb : fn.body = some c) (hres : fn.results = rs.toArray) (hok : fnOk fn sm c = true)
    (ho : obl E L c (fin E sm rs sm.pars.len)) (hrun : ∀ n x y, sm.run n x = some y → evC E L n c (giveSt (List.range sm.pars.len) sm.pars x) (fin E sm rs sm.pars.len n) = some y) : Meets P f sm := by
  simp only [fnOk, Bool.and_eq_true, Bool.not_eq_true'] at hok
  obtain ⟨⟨h1, h2⟩, h3⟩ := hok
  refine ⟨⟨fn, c, hf, h3, hb⟩, keeps_of hT (k := sm.pars.len) (lo := sm.pars.outAt) H hm hf hb hres (Nat.le_of_ble_eq_true h1) (fun w S x args F h => ArgL_len h) ho h2 hrun fun w S' y args args' F hl hb h => noOut_back hl hb h⟩
end
end Go.Abs
set_option linter.unusedVariables false
set_option linter.unusedSimpArgs false
set_option linter.unnecessarySimpa false
set_option linter.unusedSectionVars false
namespace Go.Abs
open Go

/-! ### Functions without fuel: least fixed points -/

structure CutD where
  slots : List Nat
  pars : Par

abbrev Tab := Nat → Option CutD
abbrev Psi (γ : Type) := (key : Nat) → (d : CutD) → DL d.pars.ins → Option γ

def LT {γ : Type} (T : Tab) (ψ : Psi γ) : Nat → Option (Cut γ) := fun key => match T key with
  | some d => some ⟨d.slots, d.pars, fun _ x => ψ key d x⟩
  | none => none

/-- The approximants, by fuel. -/
def LN {γ : Type} (T : Tab) (Φ : Nat → Psi γ) : Nat → Option (Cut γ) := fun key => match T key with
  | some d => some ⟨d.slots, d.pars, fun n x => Φ n key d x⟩
  | none => none

section
variable {γ : Type} {E : Env} {T : Tab}

structure Lim {α β : Type} (f : Nat → α → Option β) (g : α → Option β) : Prop where
  mono : ∀ n x r, f n x = some r → f (n + 1) x = some r
  low : ∀ n x r, f n x = some r → g x = some r
  lim : ∀ x r, g x = some r → ∃ n, f n x = some r

theorem Lim.monoLe {α β : Type} {f : Nat → α → Option β} {g : α → Option β} (h : Lim f g) {n m : Nat} (hn : n ≤ m) {x : α} {r : β} (hx : f n x = some r) : f m x = some r := by
  induction hn with
  | refl => exact hx
  | step _ ih => exact h.mono _ _ _ ih

structure LimP (Φ : Nat → Psi γ) (F : Psi γ) : Prop where
  pt : ∀ key d, Lim (fun n x => Φ n key d x) (F key d)

theorem Lim.const {α β : Type} (g : α → Option β) : Lim (fun _ => g) g := ⟨fun _ _ _ h => h, fun _ _ _ h => h, fun _ _ h => ⟨0, h⟩⟩
theorem Lim.none {α β : Type} : Lim (fun _ (_ : α) => (Option.none : Option β)) (fun _ => Option.none) := Lim.const _
theorem Lim.of {α β : Type} {f f' : Nat → α → Option β} {g g' : α → Option β} (h : Lim f g) (e : ∀ n x, f' n x = f n x) (e' : ∀ x, g' x = g x) : Lim f' g' :=
  ⟨fun n x r hx => by rw [e] at hx ⊢; exact h.mono n x r hx, fun n x r hx => by rw [e] at hx; rw [e']; exact h.low n x r hx, fun x r hx => by rw [e'] at hx; obtain ⟨n, hn⟩ := h.lim x r hx; exact ⟨n, by rw [e]; exact hn⟩⟩
/-- behind a fixed part -/
theorem Lim.bind {α β δ : Type} (o : α → Option δ) {f : Nat → δ → Option β} {g : δ → Option β} (h : Lim f g) : Lim (fun n x => (o x).bind (f n)) (fun x => (o x).bind g) :=
  ⟨fun n x r hx => by obtain ⟨y, h1, h2⟩ := Option.bind_eq_some_iff.1 hx; exact Option.bind_eq_some_iff.2 ⟨y, h1, h.mono n y r h2⟩,
   fun n x r hx => by obtain ⟨y, h1, h2⟩ := Option.bind_eq_some_iff.1 hx; exact Option.bind_eq_some_iff.2 ⟨y, h1, h.low n y r h2⟩,
   fun x r hx => by obtain ⟨y, h1, h2⟩ := Option.bind_eq_some_iff.1 hx; obtain ⟨n, hn⟩ := h.lim y r h2; exact ⟨n, Option.bind_eq_some_iff.2 ⟨y, h1, hn⟩⟩⟩
/-- by cases of what is looked at -/
theorem Lim.point {α β : Type} {f : Nat → α → Option β} {g : α → Option β} (h : ∀ x, Lim (fun n (_ : Unit) => f n x) (fun _ => g x)) : Lim f g :=
  ⟨fun n x r hx => (h x).mono n () r hx, fun n x r hx => (h x).low n () r hx, fun x r hx => (h x).lim () r hx⟩
theorem Lim.at_ {α β : Type} {f : Nat → α → Option β} {g : α → Option β} (h : Lim f g) (x : α) : Lim (fun n (_ : Unit) => f n x) (fun _ => g x) :=
  ⟨fun n _ r hx => h.mono n x r hx, fun n _ r hx => h.low n x r hx, fun _ r hx => h.lim x r hx⟩

/-- a region does what it does, then goes on -/
theorem evOps_bind (n : Nat) (ops : Array Oper) (draw : Bool) : ∀ (l : List Oper) (logs : List (List Nat × List Nat)) (s : St), ∃ o : Option St, ∀ k : St → Option γ, evOps E n ops draw l logs s k = o.bind k
  | [], logs, s => by
    simp only [evOps]
    cases hd : draw with
    | false => exact ⟨some s, fun k => rfl⟩
    | true =>
      cases ho : okLog ops.toList logs with
      | false => exact ⟨none, fun k => by simp⟩
      | true => exact ⟨some s, fun k => by simp⟩
  | o :: r, logs, s => by
    simp only [evOps, Rd.ev_run]
    cases h : (opG E n ops o).run s [] with
    | none => exact ⟨none, fun k => rfl⟩
    | some p =>
      obtain ⟨q, hq⟩ := evOps_bind n ops draw r (logs ++ [(wrote o p.1, p.2)]) (p.1.on o.dst s)
      exact ⟨q, fun k => hq k⟩

theorem go_lim {Φ : Nat → Psi γ} {F : Psi γ} (h : LimP Φ F) (key : Nat) (d : CutD) (n : Nat) :
    Lim (fun m (s : St) => Cut.go ⟨d.slots, d.pars, fun _ x => Φ m key d x⟩ n s) (fun s => Cut.go ⟨d.slots, d.pars, fun _ x => F key d x⟩ n s) := by
  refine Lim.of (Lim.bind (fun s : St => bif alOk s (aliS d.slots) then (takeP.takeL d.pars ((plainS d.slots).map s.sl)).run s [] else none) (f := fun m p => Φ m key d p.1.x) (g := fun p => F key d p.1.x) ?_) ?_ ?_
  · exact ⟨fun m x r hx => (h.pt key d).mono m _ r hx, fun m x r hx => (h.pt key d).low m _ r hx, fun x r hx => (h.pt key d).lim _ r hx⟩
  · intro m s; unfold Cut.go; rw [Rd.ev_run]; cases alOk s (aliS d.slots) <;> rfl
  · intro s; unfold Cut.go; rw [Rd.ev_run]; cases alOk s (aliS d.slots) <;> rfl

abbrev LimK (k : Nat → Ex → St → Option γ) (k' : Ex → St → Option γ) : Prop := ∀ ex, Lim (fun n s => k n ex s) (k' ex)

theorem evC_lim {Φ : Nat → Psi γ} {F : Psi γ} (h : LimP Φ F) (n : Nat) : ∀ (c : Code) (k : Nat → Ex → St → Option γ) (k' : Ex → St → Option γ), LimK k k' →
    Lim (fun m s => evC E (LT T (Φ m)) n c s (k m)) (fun s => evC E (LT T F) n c s k')
  | .skip, k, k', hk => hk .normal
  | .ret, k, k', hk => hk .ret
  | .exit i, k, k', hk => hk (.exit i)
  | .seq a b, k, k', hk => by
    refine evC_lim h n a _ _ fun ex => ?_
    cases ex with
    | normal =>
      simp only [LT]
      cases hT : T (2 * headRegion b + 1) with
      | none => exact evC_lim h n b k k' hk
      | some d => exact go_lim h _ d n
    | exit i => exact hk (.exit i)
    | ret => exact hk .ret
  | .block i a, k, k', hk => by
    refine evC_lim h n a _ _ fun ex => ?_
    cases ex with
    | normal => exact hk .normal
    | ret => exact hk .ret
    | exit j =>
      simp only
      cases Nat.beq j i with
      | true => exact hk .normal
      | false => exact hk (.exit j)
  | .loop a, k, k', hk => by
    simp only [evC, LT]
    cases hT : T (2 * headRegion a) with
    | none => exact Lim.none
    | some d => exact go_lim h _ d n
  | .cond c a b, k, k', hk => by
    refine Lim.point fun s => ?_
    cases c with
    | tmp t =>
      simp only [evC]
      cases hs : s.sl t with
      | val τ x =>
        cases τ with
        | bool =>
          cases x with
          | true => exact (evC_lim h n a k k' hk).at_ _
          | false => exact (evC_lim h n b k k' hk).at_ _
        | _ => exact Lim.none
      | _ => exact Lim.none
    | _ => exact Lim.none
  | .region i ops draw, k, k', hk => by
    refine Lim.point fun s => ?_
    obtain ⟨o, ho⟩ := evOps_bind (γ := γ) (E := E) n ops draw ops.toList [] (frzAll (E.frz i) s)
    refine Lim.of (Lim.bind (fun _ : Unit => o) (hk .normal)) ?_ ?_
    · intro m x; exact ho _
    · intro x; exact ho _
  | .goto _, k, k', hk | .label _, k, k', hk | .scope _, k, k', hk | .rangeFunc .., k, k', hk | .refuse _, k, k', hk => Lim.none

/-- the cuts' codes, with what is behind each -/
def contF (E : Env) (L : Nat → Option (Cut γ)) (c : Code) (K : Ex → St → Option γ) : List (Nat × (Nat → St → Option γ)) := conts E L c (fun _ => K)

inductive All2 {α β : Type} (R : α → β → Prop) : List α → List β → Prop
  | nil : All2 R [] []
  | cons {a b l m} : R a b → All2 R l m → All2 R (a :: l) (b :: m)
theorem All2.app {α β : Type} {R : α → β → Prop} {l m : List α} {l' m' : List β} (h : All2 R l l') (k : All2 R m m') : All2 R (l ++ m) (l' ++ m') := by
  induction h with
  | nil => exact k
  | cons h _ ih => exact .cons h ih

def look {α : Type} (key : Nat) : List (Nat × α) → Option α
  | [] => none
  | (k, x) :: l => bif Nat.beq k key then some x else look key l

theorem look_all2 {α β : Type} {R : Nat × α → Nat × β → Prop} (hR : ∀ a b, R a b → a.1 = b.1) {key : Nat} {l : List (Nat × α)} {m : List (Nat × β)} (h : All2 R l m) :
    (look key l = none ∧ look key m = none) ∨ ∃ x y, look key l = some x ∧ look key m = some y ∧ R (key, x) (key, y) := by
  induction h with
  | nil => exact .inl ⟨rfl, rfl⟩
  | @cons a b l m h _ ih =>
    revert h
    rcases a with ⟨k, x⟩
    rcases b with ⟨k', y⟩
    intro h
    have e : k = k' := hR _ _ h
    subst e
    simp only [look]
    cases hk : Nat.beq k key with
    | true =>
      have := Nat.eq_of_beq_eq_true hk
      subst this
      exact .inr ⟨x, y, rfl, rfl, h⟩
    | false => exact ih

/-- one family of codes in the limit: entry by entry -/
theorem conts_lim {Φ : Nat → Psi γ} {F : Psi γ} (h : LimP Φ F) (n : Nat) (m0 : Nat) : ∀ (c : Code) (k : Nat → Nat → Ex → St → Option γ) (k' : Nat → Ex → St → Option γ), (∀ n, LimK (fun m => k m n) (k' n)) →
    ∃ l : List (Nat × ((Nat → St → Option γ) × (Nat → Nat → St → Option γ))),
      conts E (LT T F) c k' = l.map (fun p => (p.1, p.2.1)) ∧ (∀ m, conts E (LT T (Φ m)) c (k m) = l.map fun p => (p.1, p.2.2 m)) ∧ ∀ p ∈ l, ∀ n, Lim (fun m s => p.2.2 m n s) (p.2.1 n)
  | .seq a b, k, k', hk => by
    obtain ⟨l1, a1, a2, a3⟩ := conts_lim h n m0 a (fun m => inSeq E (LT T (Φ m)) b (k m)) (inSeq E (LT T F) b k') (fun n ex => by
      cases ex with
      | normal =>
        cases hT : T (2 * headRegion b + 1) with
        | none => exact Lim.of (evC_lim (E := E) (T := T) h n b (fun m => k m n) (k' n) (hk n)) (fun m s => by simp only [inSeq, LT, hT]) (fun s => by simp only [inSeq, LT, hT])
        | some d => exact Lim.of (go_lim h (2 * headRegion b + 1) d n) (fun m s => by simp only [inSeq, LT, hT]) (fun s => by simp only [inSeq, LT, hT])
      | exit i => exact hk n (.exit i)
      | ret => exact hk n .ret)
    obtain ⟨l2, b1, b2, b3⟩ := conts_lim h n m0 b k k' hk
    refine ⟨(2 * headRegion b + 1, (fun n s => evC E (LT T F) n b s (k' n)), (fun m n s => evC E (LT T (Φ m)) n b s (k m n))) :: (l1 ++ l2), ?_, ?_, ?_⟩
    · simp only [conts, List.map_cons, List.map_append, a1, b1]
    · intro m; simp only [conts, List.map_cons, List.map_append, a2, b2]
    · intro p hp n
      rcases List.mem_cons.1 hp with rfl | hp
      · exact evC_lim h n b (fun m => k m n) (k' n) (hk n)
      · exact (List.mem_append.1 hp).elim (fun hp => a3 p hp n) (fun hp => b3 p hp n)
  | .block i a, k, k', hk => conts_lim h n m0 a (fun m => inBlk i (k m)) (inBlk i k') (fun n ex => by
      cases ex with
      | normal => exact hk n .normal
      | ret => exact hk n .ret
      | exit j =>
        cases hj : Nat.beq j i with
        | true => exact Lim.of (hk n .normal) (fun m s => by simp only [inBlk, hj, cond_true]) (fun s => by simp only [inBlk, hj, cond_true])
        | false => exact Lim.of (hk n (.exit j)) (fun m s => by simp only [inBlk, hj, cond_false]) (fun s => by simp only [inBlk, hj, cond_false]))
  | .loop a, k, k', hk => by
    simp only [conts]
    cases hT : T (2 * headRegion a) with
    | none => refine ⟨[], ?_, fun m => ?_, (fun _ h => nomatch h)⟩ <;> simp [LT, hT]
    | some d =>
      obtain ⟨l1, a1, a2, a3⟩ := conts_lim h n m0 a (fun m => inLoop ⟨d.slots, d.pars, fun _ x => Φ m (2 * headRegion a) d x⟩ (k m)) (inLoop ⟨d.slots, d.pars, fun _ x => F (2 * headRegion a) d x⟩ k') (fun n ex => by
        cases ex with
        | normal => exact go_lim h _ d n
        | exit i => exact hk n (.exit i)
        | ret => exact hk n .ret)
      refine ⟨(2 * headRegion a, (fun n s => evC E (LT T F) n a s (inLoop ⟨d.slots, d.pars, fun _ x => F (2 * headRegion a) d x⟩ k' n)), (fun m n s => evC E (LT T (Φ m)) n a s (inLoop ⟨d.slots, d.pars, fun _ x => Φ m (2 * headRegion a) d x⟩ (k m) n))) :: l1, ?_, ?_, ?_⟩
      · simp only [LT, hT, List.map_cons]; rw [← a1]
      · intro m; simp only [LT, hT, List.map_cons]; rw [← a2]
      · intro p hp n
        rcases List.mem_cons.1 hp with rfl | hp
        · refine evC_lim h n a _ _ fun ex => ?_
          cases ex with
          | normal => exact go_lim h _ d n
          | exit i => exact hk n (.exit i)
          | ret => exact hk n .ret
        · exact a3 p hp n
  | .cond _ a b, k, k', hk => by
    obtain ⟨l1, a1, a2, a3⟩ := conts_lim h n m0 a k k' hk
    obtain ⟨l2, b1, b2, b3⟩ := conts_lim h n m0 b k k' hk
    refine ⟨l1 ++ l2, ?_, ?_, ?_⟩
    · simp only [conts, List.map_append, a1, b1]
    · intro m; simp only [conts, List.map_append, a2, b2]
    · exact fun p hp n => (List.mem_append.1 hp).elim (fun hp => a3 p hp n) (fun hp => b3 p hp n)
  | .skip, k, k', hk | .ret, k, k', hk | .exit _, k, k', hk | .region .., k, k', hk | .goto _, k, k', hk | .label _, k, k', hk | .scope _, k, k', hk | .rangeFunc .., k, k', hk | .refuse _, k, k', hk =>
    ⟨[], rfl, fun _ => rfl, (fun _ h => nomatch h)⟩

/-- one step -/
def stepP (E : Env) (T : Tab) (c : Code) (K : Ex → St → Option γ) (ψ : Psi γ) : Psi γ := fun key d x => match look key (contF E (LT T ψ) c K) with
  | some f => f 0 (giveCut d.slots d.pars x)
  | none => none

def phi (E : Env) (T : Tab) (c : Code) (K : Ex → St → Option γ) : Nat → Psi γ
  | 0 => fun _ _ _ => none
  | n + 1 => stepP E T c K (phi E T c K n)

open Classical in
/-- the least fixed point -/
noncomputable def fixP (E : Env) (T : Tab) (c : Code) (K : Ex → St → Option γ) : Psi γ := fun key d x =>
  if h : ∃ r n, phi E T c K n key d x = some r then some h.choose else none

theorem look_map {α β : Type} (f : Nat × α → β) (key : Nat) : ∀ l : List (Nat × α), look key (l.map fun p => (p.1, f p)) = (look key (l.map fun p => (p.1, p))).map f
  | [] => rfl
  | (k, x) :: l => by
    simp only [List.map_cons, look]
    cases Nat.beq k key with
    | true => rfl
    | false => exact look_map f key l

theorem look_mem {α : Type} {key : Nat} {y : Nat × α} : ∀ {l : List (Nat × α)}, look key (l.map fun p => (p.1, p)) = some y → y ∈ l ∧ y.1 = key
  | [], h => by cases h
  | (k, x) :: l, h => by
    simp only [List.map_cons, look] at h
    cases hk : Nat.beq k key with
    | true =>
      rw [hk] at h
      simp only [cond_true] at h
      cases h
      exact ⟨List.mem_cons_self .., Nat.eq_of_beq_eq_true hk⟩
    | false =>
      rw [hk] at h
      simp only [cond_false] at h
      obtain ⟨h1, h2⟩ := look_mem h
      exact ⟨List.mem_cons_of_mem _ h1, h2⟩

theorem stepP_lim {c : Code} {K : Ex → St → Option γ} {Φ : Nat → Psi γ} {F : Psi γ} (h : LimP Φ F) (key : Nat) (d : CutD) : Lim (fun m x => stepP E T c K (Φ m) key d x) (stepP E T c K F key d) := by
  obtain ⟨l, a1, a2, a3⟩ := conts_lim (E := E) (T := T) h 0 0 c (fun _ _ => K) (fun _ => K) (fun _ _ => Lim.const _)
  have e1 : ∀ x, stepP E T c K F key d x = (match (look key (l.map fun p => (p.1, p))).map (fun p => p.2.1) with | some f => f 0 (giveCut d.slots d.pars x) | none => none) := by
    intro x; unfold stepP contF; rw [a1, look_map (fun p => p.2.1) key l]
  have e2 : ∀ m x, stepP E T c K (Φ m) key d x = (match (look key (l.map fun p => (p.1, p))).map (fun p => p.2.2 m) with | some f => f 0 (giveCut d.slots d.pars x) | none => none) := by
    intro m x; unfold stepP contF; rw [a2, look_map (fun p => p.2.2 m) key l]
  refine Lim.of ?_ e2 e1
  cases hl : look key (l.map fun p => (p.1, p)) with
  | none => exact Lim.none
  | some y =>
    have := a3 y (look_mem hl).1 0
    exact ⟨fun m x r hx => this.mono m _ r hx, fun m x r hx => this.low m _ r hx, fun x r hx => this.lim _ r hx⟩

theorem stepP_mono {c : Code} {K : Ex → St → Option γ} {ψ ψ' : Psi γ} (h : ∀ key d x r, ψ key d x = some r → ψ' key d x = some r) (key : Nat) (d : CutD) (x : DL d.pars.ins) (r : γ)
    (hx : stepP E T c K ψ key d x = some r) : stepP E T c K ψ' key d x = some r := by
  have : LimP (fun n => match n with | 0 => ψ | _ + 1 => ψ') ψ' := ⟨fun key d => ⟨fun n x r hx => by cases n with
    | zero => exact h key d x r hx
    | succ n => exact hx, fun n x r hx => by cases n with
    | zero => exact h key d x r hx
    | succ n => exact hx, fun x r hx => ⟨1, hx⟩⟩⟩
  exact (stepP_lim (E := E) (T := T) (c := c) (K := K) this key d).low 0 x r hx

theorem phi_mono {c : Code} {K : Ex → St → Option γ} : ∀ (n : Nat) (key : Nat) (d : CutD) (x : DL d.pars.ins) (r : γ), phi E T c K n key d x = some r → phi E T c K (n + 1) key d x = some r
  | 0, key, d, x, r, h => by cases h
  | n + 1, key, d, x, r, h => stepP_mono (phi_mono n) key d x r h

theorem phi_le {c : Code} {K : Ex → St → Option γ} {n m : Nat} (hn : n ≤ m) {key : Nat} {d : CutD} {x : DL d.pars.ins} {r : γ} (h : phi E T c K n key d x = some r) : phi E T c K m key d x = some r := by
  induction hn with
  | refl => exact h
  | step _ ih => exact phi_mono _ _ _ _ _ ih

theorem phi_lim {c : Code} {K : Ex → St → Option γ} : LimP (phi E T c K) (fixP E T c K) := by
  refine ⟨fun key d => ⟨fun n x r h => phi_mono n key d x r h, fun n x r h => ?_, fun x r h => ?_⟩⟩
  · have hx : ∃ r n, phi E T c K n key d x = some r := ⟨r, n, h⟩
    unfold fixP
    rw [dif_pos hx]
    obtain ⟨m, hm⟩ := hx.choose_spec
    rcases Nat.le_total n m with hl | hl
    · rw [phi_le hl h] at hm; exact hm.symm
    · rw [phi_le hl hm] at h; exact h
  · unfold fixP at h
    split at h
    · rename_i hx
      obtain ⟨m, hm⟩ := hx.choose_spec
      exact ⟨m, hm.trans h⟩
    · cases h

/-- A cut's meaning is its code's. -/
theorem fixP_eq (E : Env) (T : Tab) (c : Code) (K : Ex → St → Option γ) (key : Nat) (d : CutD) (x : DL d.pars.ins) : fixP E T c K key d x = stepP E T c K (fixP E T c K) key d x := by
  have L := phi_lim (E := E) (T := T) (c := c) (K := K)
  have S := stepP_lim (E := E) (T := T) (c := c) (K := K) L key d
  apply Option.ext
  intro r
  constructor
  · intro h
    obtain ⟨n, hn⟩ := (L.pt key d).lim x r h
    cases n with
    | zero => cases hn
    | succ n => exact S.low n x r hn
  · intro h
    obtain ⟨n, hn⟩ := S.lim x r h
    exact (L.pt key d).low (n + 1) x r hn

/-- what a function computes -/
noncomputable def runP (E : Env) (T : Tab) (c : Code) (K : Ex → St → Option γ) (k : Nat) (p : Par) (x : DL p.ins) : Option γ := evC E (LT T (fixP E T c K)) 0 c (giveSt (List.range k) p x) K

/-- the calls' meanings hang on no fuel -/
def Env.still (E : Env) : Prop := ∀ f fs s, E.sum f fs = some s → ∀ n m x, s.run n x = s.run m x

theorem op_still (hE : E.still) (n m d : Nat) (o : Op) : op E n d o = op E m d o := by
  cases o with
  | call c =>
    simp only [op]
    have key : ∀ g vs, callF E n d g vs = callF E m d g vs := by
      intro g vs
      unfold callF
      cases hs : E.sum g (fnsOf vs) with
      | none => rfl
      | some s =>
        simp only
        congr 1
        funext t
        rw [hE g _ s hs n m]
    simp only [key]
  | slice t x lo hi mx => cases mx <;> cases lo <;> cases hi <;> rfl
  | pick g x y => cases g <;> rfl
  | unOp u t x => cases u <;> rfl
  | makeFunc f a b => cases f <;> rfl
  | _ => rfl

theorem opG_still (hE : E.still) (n m : Nat) (ops : Array Oper) (o : Oper) : opG E n ops o = opG E m ops o := by
  unfold opG
  simp only [op_still hE n m]

theorem evOps_still (hE : E.still) (n m : Nat) (ops : Array Oper) (draw : Bool) (k : St → Option γ) : ∀ (l : List Oper) (logs : List (List Nat × List Nat)) (s : St), evOps E n ops draw l logs s k = evOps E m ops draw l logs s k
  | [], logs, s => rfl
  | o :: r, logs, s => by
    simp only [evOps, opG_still hE n m, Rd.ev_run]
    congr 1
    funext p
    exact evOps_still hE n m ops draw k r _ _

/-- fuel tells which approximant is taken -/
theorem evC_still (hE : E.still) (Φ : Nat → Psi γ) (n m : Nat) : ∀ (c : Code) (s : St) (k k' : Ex → St → Option γ), (∀ ex s, k ex s = k' ex s) → evC E (LN T Φ) n c s k = evC E (LT T (Φ n)) m c s k'
  | .skip, s, k, k', hk => hk _ _
  | .ret, s, k, k', hk => hk _ _
  | .exit i, s, k, k', hk => hk _ _
  | .seq a b, s, k, k', hk => by
    refine evC_still hE Φ n m a s _ _ fun ex s' => ?_
    cases ex with
    | normal =>
      simp only [LN, LT]
      cases hT : T (2 * headRegion b + 1) with
      | none => exact evC_still hE Φ n m b s' k k' hk
      | some d => rfl
    | exit i => exact hk _ _
    | ret => exact hk _ _
  | .block i a, s, k, k', hk => by
    refine evC_still hE Φ n m a s _ _ fun ex s' => ?_
    cases ex with
    | normal => exact hk _ _
    | ret => exact hk _ _
    | exit j =>
      simp only
      cases Nat.beq j i with
      | true => exact hk _ _
      | false => exact hk _ _
  | .loop a, s, k, k', hk => by
    simp only [evC, LN, LT]
    cases hT : T (2 * headRegion a) with
    | none => rfl
    | some d => rfl
  | .cond c a b, s, k, k', hk => by
    cases c with
    | tmp t =>
      simp only [evC]
      cases hs : s.sl t with
      | val τ x =>
        cases τ with
        | bool =>
          cases x with
          | true => exact evC_still hE Φ n m a _ k k' hk
          | false => exact evC_still hE Φ n m b _ k k' hk
        | _ => rfl
      | _ => rfl
    | _ => rfl
  | .region i ops draw, s, k, k', hk => by
    simp only [evC]
    rw [evOps_still hE n m]
    obtain ⟨o, ho⟩ := evOps_bind (γ := γ) (E := E) m ops draw ops.toList [] (frzAll (E.frz i) s)
    rw [ho, ho]
    congr 1
    funext s'
    exact hk _ _
  | .goto _, s, k, k', hk | .label _, s, k, k', hk | .scope _, s, k, k', hk | .rangeFunc .., s, k, k', hk | .refuse _, s, k, k', hk => rfl

theorem conts_still (hE : E.still) (Φ : Nat → Psi γ) (n m : Nat) : ∀ (c : Code) (K K' : Nat → Ex → St → Option γ), (∀ ex s, K n ex s = K' m ex s) →
    All2 (fun p q => p.1 = q.1 ∧ ∀ s, p.2 n s = q.2 m s) (conts E (LN T Φ) c K) (conts E (LT T (Φ n)) c K')
  | .seq a b, K, K', hK => by
    simp only [conts]
    refine .cons ⟨rfl, fun s => evC_still hE Φ n m b s _ _ hK⟩ (All2.app (conts_still hE Φ n m a _ _ fun ex s' => ?_) (conts_still hE Φ n m b K K' hK))
    cases ex with
    | normal =>
      simp only [inSeq, LN, LT]
      cases hT : T (2 * headRegion b + 1) with
      | none => exact evC_still hE Φ n m b s' _ _ hK
      | some d => rfl
    | exit i => exact hK _ _
    | ret => exact hK _ _
  | .block i a, K, K', hK => by
    simp only [conts]
    refine conts_still hE Φ n m a _ _ fun ex s' => ?_
    cases ex with
    | normal => exact hK _ _
    | ret => exact hK _ _
    | exit j =>
      simp only [inBlk]
      cases Nat.beq j i with
      | true => exact hK _ _
      | false => exact hK _ _
  | .loop a, K, K', hK => by
    simp only [conts, LN, LT]
    cases hT : T (2 * headRegion a) with
    | none => exact .nil
    | some d =>
      have hl : ∀ ex s, inLoop (γ := γ) ⟨d.slots, d.pars, fun n x => Φ n (2 * headRegion a) d x⟩ K n ex s = inLoop ⟨d.slots, d.pars, fun _ x => Φ n (2 * headRegion a) d x⟩ K' m ex s := by
        intro ex s
        cases ex with
        | normal => rfl
        | exit i => exact hK _ _
        | ret => exact hK _ _
      exact .cons ⟨rfl, fun s => evC_still hE Φ n m a s _ _ hl⟩ (conts_still hE Φ n m a _ _ hl)
  | .cond _ a b, K, K', hK => by
    simp only [conts]
    exact All2.app (conts_still hE Φ n m a K K' hK) (conts_still hE Φ n m b K K' hK)
  | .skip, K, K', hK | .ret, K, K', hK | .exit _, K, K', hK | .region .., K, K', hK | .goto _, K, K', hK | .label _, K, K', hK | .scope _, K, K', hK | .rangeFunc .., K, K', hK | .refuse _, K, K', hK => .nil

/-- the keys of a code's cuts -/
def keysC (T : Tab) : Code → List Nat
  | .seq a b => (2 * headRegion b + 1) :: (keysC T a ++ keysC T b)
  | .block _ a => keysC T a
  | .loop a => match T (2 * headRegion a) with
    | some _ => (2 * headRegion a) :: keysC T a
    | none => []
  | .cond _ a b => keysC T a ++ keysC T b
  | _ => []

theorem conts_keys {L : Nat → Option (Cut γ)} (hL : ∀ key, (L key).isSome = (T key).isSome) : ∀ (c : Code) (K : Nat → Ex → St → Option γ), (conts E L c K).map (·.1) = keysC T c
  | .seq a b, K => by simp only [conts, keysC, List.map_cons, List.map_append, conts_keys hL a, conts_keys hL b]
  | .block i a, K => conts_keys hL a _
  | .loop a, K => by
    simp only [conts, keysC]
    have := hL (2 * headRegion a)
    cases h1 : L (2 * headRegion a) <;> cases h2 : T (2 * headRegion a) <;> rw [h1, h2] at this <;> simp at this
    · rfl
    · simp only [List.map_cons, conts_keys hL a]
  | .cond _ a b, K => by simp only [conts, keysC, List.map_append, conts_keys hL a, conts_keys hL b]
  | .skip, K | .ret, K | .exit _, K | .region .., K | .goto _, K | .label _, K | .scope _, K | .rangeFunc .., K | .refuse _, K => rfl

/-- a key that is a cut's stands once -/
def keysOk (T : Tab) : List Nat → Bool
  | [] => true
  | k :: l => (match T k with | some _ => l.all (fun j => !(Nat.beq j k)) | none => true) && keysOk T l

theorem look_once {α : Type} {key : Nat} {d : CutD} (hT : T key = some d) : ∀ {l : List (Nat × α)} {p : Nat × α}, keysOk T (l.map (·.1)) = true → p ∈ l → p.1 = key → look key l = some p.2
  | [], p, _, h, _ => nomatch h
  | (k, x) :: l, p, hk, h, e => by
    simp only [List.map_cons, keysOk, Bool.and_eq_true] at hk
    simp only [look]
    rcases List.mem_cons.1 h with rfl | h
    · simp only at e; subst e; simp
    · cases hkk : Nat.beq k key with
      | false => exact look_once hT hk.2 h e
      | true =>
        exfalso
        have := Nat.eq_of_beq_eq_true hkk
        subst this
        rw [hT] at hk
        have := List.all_eq_true.1 hk.1 p.1 (List.mem_map.2 ⟨p, h, rfl⟩)
        rw [e] at this
        simp at this

/-- What is to be shown of the cuts, is. -/
theorem obl_fix (hE : E.still) {c : Code} {K : Ex → St → Option γ} (hk : keysOk T (keysC T c) = true) : obl E (LN T (phi E T c K)) c (fun _ => K) := by
  refine obl_of c _ fun p hp => ?_
  unfold okCut
  cases hL : LN T (phi E T c K) p.1 with
  | none => trivial
  | some cc =>
    simp only [LN] at hL
    cases hT : T p.1 with
    | none => rw [hT] at hL; cases hL
    | some d =>
      rw [hT] at hL
      simp only [Option.some.injEq] at hL
      subst hL
      simp only
      have step : ∀ n x r, phi E T c K (n + 1) p.1 d x = some r → p.2 n (giveCut d.slots d.pars x) = some r := by
        intro n x r h
        have h2 := conts_still (T := T) hE (phi E T c K) n 0 c (fun _ => K) (fun _ => K) (fun _ _ => rfl)
        have hkeys : keysOk T ((conts E (LN T (phi E T c K)) c (fun _ => K)).map (·.1)) = true := by
          rw [conts_keys (T := T) (fun key => by simp only [LN]; cases T key <;> rfl)]; exact hk
        have h3 := look_once hT hkeys hp rfl
        rcases look_all2 (fun a b h => h.1) h2 (key := p.1) with ⟨g1, g2⟩ | ⟨f, g, g1, g2, g3, g4⟩
        · rw [g1] at h3; cases h3
        · rw [g1] at h3
          cases h3
          simp only at g4
          rw [g4]
          have e : phi E T c K (n + 1) p.1 d x = g 0 (giveCut d.slots d.pars x) := by
            show stepP E T c K (phi E T c K n) p.1 d x = _
            unfold stepP contF
            rw [g2]
          rw [← e]; exact h
      cases hb : Nat.beq (p.1 % 2) 0 with
      | true => exact ⟨fun x => rfl, step⟩
      | false =>
        intro n x r h
        cases n with
        | zero => cases h
        | succ n => exact step (n + 1) x r (phi_mono _ _ _ _ _ h)

theorem runP_some (hE : E.still) {c : Code} {K : Ex → St → Option γ} {k : Nat} {p : Par} {x : DL p.ins} {y : γ} (h : runP E T c K k p x = some y) :
    ∃ n, evC E (LN T (phi E T c K)) n c (giveSt (List.range k) p x) K = some y := by
  obtain ⟨n, hn⟩ := (evC_lim (E := E) (T := T) phi_lim 0 c (fun _ => K) K (fun _ => Lim.const _)).lim _ y h
  exact ⟨n, by rw [evC_still hE _ n 0 c _ K K (fun _ _ => rfl)]; exact hn⟩
end

section
variable {P : Program} {E : Env}

theorem Keeps_of_some {f : FuncId} {p : Par} {res : List (Nat × Ty)} {r1 : Nat → DL p.ins → Option (DL (res.map (·.2) ++ p.outs))} {r2 : DL p.ins → Option (DL (res.map (·.2) ++ p.outs))}
    (h : Keeps P f ⟨p, res, r1⟩) (hr : ∀ x y, r2 x = some y → ∃ n, r1 n x = some y) : Keeps P f ⟨p, res, fun _ => r2⟩ := by
  intro n w args x y S Fa hx
  obtain ⟨m, hm⟩ := hr x y hx
  exact h m w args x y S Fa hm

/-- A function's meaning. -/
noncomputable def Fn (E : Env) (T : Tab) (c : Code) (p : Par) (res : List (Nat × Ty)) (rs : List ResultVar) (x : DL p.ins) : Option (DL (res.map (·.2) ++ p.outs)) :=
  runP E T c (fin E ⟨p, res, fun _ _ => none⟩ rs p.len 0) p.len p x

theorem meets_fix {f : FuncId} {fn : Func} {c : Code} {p : Par} {res : List (Nat × Ty)} {rs : List ResultVar} {T : Tab} (hT : EnvTy P E) (H : OpSound P E) (hE : E.still) (hm : P.follows .mixedOrders = true)
    (hf : P.funcs[f]? = some fn) (hb : fn.body = some c) (hres : fn.results = rs.toArray) (hok : fnOk fn ⟨p, res, fun _ _ => none⟩ c = true) (hk : keysOk T (keysC T c) = true) :
    Meets P f ⟨p, res, fun _ => Fn E T c p res rs⟩ := by
  let K : Ex → St → Option (DL (res.map (·.2) ++ p.outs)) := fin E ⟨p, res, fun _ _ => none⟩ rs p.len 0
  have h1 : Meets P f ⟨p, res, fun n x => evC E (LN T (phi E T c K)) n c (giveSt (List.range p.len) p x) K⟩ :=
    meets_of (sm := ⟨p, res, fun n x => evC E (LN T (phi E T c K)) n c (giveSt (List.range p.len) p x) K⟩) (L := LN T (phi E T c K)) hT H hm hf hb hres hok (obl_fix hE hk) (fun n x y h => h)
  exact ⟨h1.1, Keeps_of_some h1.2 fun x y h => runP_some hE h⟩
end
end Go.Abs
set_option linter.unusedVariables false
set_option linter.unusedSimpArgs false
namespace Go.Abs
open Go

/-! ### Tables -/

abbrev TyTab := List (Nat × Ty × Nat)
abbrev ArrTab := List (Nat × Nat)
abbrev SumTab := List (Nat × List Nat × Sum)

def sameL : List Nat → List Nat → Bool
  | [], [] => true
  | a :: l, b :: m => Nat.beq a b && sameL l m
  | _, _ => false

def lookS (f : Nat) (fs : List Nat) : SumTab → Option Sum
  | [] => none
  | (g, gs, s) :: l => bif Nat.beq f g && sameL fs gs then some s else lookS f fs l

def cmpIn (A : ArrTab) (t : Nat) : Option (Ty × Nat) → Bool
  | some x => x.1.leafy && (look t A).isNone
  | none => false

def mkEnv (T : TyTab) (A : ArrTab) (S : SumTab) : Env where
  ty := fun t => look t T
  arr := fun t => look t A
  cmp := fun t => cmpIn A t (look t T)
  sum := fun f fs => lookS f fs S

/-- with what is frozen ahead of regions -/
def mkEnvZ (T : TyTab) (A : ArrTab) (S : SumTab) (Z : List (Nat × List Nat)) : Env where
  ty := fun t => look t T
  arr := fun t => look t A
  cmp := fun t => cmpIn A t (look t T)
  sum := fun f fs => lookS f fs S
  frz := fun i => (look i Z).getD []

def tabOk (P : Program) (A : ArrTab) : TyTab → Bool
  | [] => true
  | (t, x) :: l => decide (tyInfo P t = some x) && decide (arrInfo P t = look t A) && (!(x.1.leafy && (look t A).isNone) || cmpB P t) && tabOk P A l

theorem look_in {α : Type} {k : Nat} {x : α} : ∀ {l : List (Nat × α)}, look k l = some x → (k, x) ∈ l
  | [], h => by cases h
  | (j, y) :: l, h => by
    simp only [look] at h
    cases hj : Nat.beq j k with
    | true =>
      rw [hj] at h
      simp only [cond_true] at h
      cases h
      rw [Nat.eq_of_beq_eq_true hj]
      exact List.mem_cons_self ..
    | false =>
      rw [hj] at h
      exact List.mem_cons_of_mem _ (look_in h)

theorem tabOk_mem {P : Program} {A : ArrTab} : ∀ {T : TyTab} {t : Nat} {x : Ty × Nat}, tabOk P A T = true → (t, x) ∈ T → tyInfo P t = some x ∧ arrInfo P t = look t A ∧ ((x.1.leafy && (look t A).isNone) = true → cmpB P t = true)
  | (t', x') :: l, t, x, h, hm => by
    simp only [tabOk, Bool.and_eq_true, decide_eq_true_eq] at h
    rcases List.mem_cons.1 hm with e | hm
    · cases e
      refine ⟨h.1.1.1, h.1.1.2, fun g => ?_⟩
      have h2 := h.1.2
      rw [g] at h2
      simpa using h2
    · exact tabOk_mem h.2 hm

theorem envTy_of {P : Program} {T : TyTab} {A : ArrTab} (h : tabOk P A T = true) (S : SumTab) : EnvTy P (mkEnv T A S) :=
  ⟨fun _ _ _ hk => (tabOk_mem h (look_in hk)).1, fun _ _ _ hk => (tabOk_mem h (look_in hk)).2.1, fun t τ b hk hc => by
    have hk' : look t T = some (τ, b) := hk
    have hc' : cmpIn A t (look t T) = true := hc
    rw [hk'] at hc'
    have h2 := hc'
    simp only [cmpIn, Bool.and_eq_true] at h2
    exact ⟨h2.1, (tabOk_mem h (look_in hk)).2.2 hc'⟩⟩

def AllMeets (P : Program) : SumTab → Prop
  | [] => True
  | (f, _, s) :: l => Meets P f s ∧ AllMeets P l
def AllStill : SumTab → Prop
  | [] => True
  | (_, _, s) :: l => (∀ n m x, s.run n x = s.run m x) ∧ AllStill l

theorem AllMeets.nil {P : Program} : AllMeets P [] := trivial
theorem AllMeets.cons {P : Program} {f : Nat} {cs : List Nat} {s : Sum} {l : SumTab} (h : Meets P f s) (k : AllMeets P l) : AllMeets P ((f, cs, s) :: l) := ⟨h, k⟩
theorem AllStill.nil : AllStill [] := trivial
theorem AllStill.cons {f : Nat} {cs : List Nat} {s : Sum} {l : SumTab} (h : ∀ n m x, s.run n x = s.run m x) (k : AllStill l) : AllStill ((f, cs, s) :: l) := ⟨h, k⟩

theorem lookS_meets {P : Program} : ∀ {S : SumTab} {f : Nat} {fs : List Nat} {s : Sum}, AllMeets P S → lookS f fs S = some s → Meets P f s
  | (g, gs, r) :: l, f, fs, s, h, hk => by
    simp only [lookS] at hk
    cases hj : Nat.beq f g && sameL fs gs with
    | true =>
      rw [hj] at hk
      simp only [cond_true] at hk
      cases hk
      rw [Bool.and_eq_true] at hj
      rw [Nat.eq_of_beq_eq_true hj.1]
      exact h.1
    | false =>
      rw [hj] at hk
      exact lookS_meets h.2 hk
theorem lookS_still : ∀ {S : SumTab} {f : Nat} {fs : List Nat} {s : Sum}, AllStill S → lookS f fs S = some s → ∀ n m x, s.run n x = s.run m x
  | (g, gs, r) :: l, f, fs, s, h, hk => by
    simp only [lookS] at hk
    cases hj : Nat.beq f g && sameL fs gs with
    | true =>
      rw [hj] at hk
      simp only [cond_true] at hk
      cases hk
      exact h.1
    | false =>
      rw [hj] at hk
      exact lookS_still h.2 hk

/-- A function meets its contract: what is looked up of it is closed. -/
theorem meets_tab {P : Program} {T : TyTab} {A : ArrTab} {S : SumTab} (hT : tabOk P A T = true) (hS : AllMeets P S) (hst : AllStill S) (hm : P.follows .mixedOrders = true) {f : FuncId} {fn : Func} {c : Code} {p : Par} {res : List (Nat × Ty)} {rs : List ResultVar} {K : Tab}
    (hf : P.funcs[f]? = some fn) (hb : fn.body = some c) (hres : fn.results = rs.toArray) (hok : (fnOk fn ⟨p, res, fun _ _ => none⟩ c && keysOk K (keysC K c)) = true) :
    Meets P f ⟨p, res, fun _ => Fn (mkEnv T A S) K c p res rs⟩ := by
  rw [Bool.and_eq_true] at hok
  exact meets_fix (envTy_of hT S) (op_sound (envTy_of hT S) fun f fs s h => lookS_meets hS h) (fun f fs s h => lookS_still hst h) hm hf hb hres hok.1 hok.2

theorem meets_tabZ {P : Program} {T : TyTab} {A : ArrTab} {S : SumTab} (Z : List (Nat × List Nat)) (hT : tabOk P A T = true) (hS : AllMeets P S) (hst : AllStill S) (hm : P.follows .mixedOrders = true) {f : FuncId} {fn : Func} {c : Code} {p : Par} {res : List (Nat × Ty)} {rs : List ResultVar} {K : Tab}
    (hf : P.funcs[f]? = some fn) (hb : fn.body = some c) (hres : fn.results = rs.toArray) (hok : (fnOk fn ⟨p, res, fun _ _ => none⟩ c && keysOk K (keysC K c)) = true) :
    Meets P f ⟨p, res, fun _ => Fn (mkEnvZ T A S Z) K c p res rs⟩ := by
  rw [Bool.and_eq_true] at hok
  have hT' : EnvTy P (mkEnvZ T A S Z) := ⟨(envTy_of hT S).ty, (envTy_of hT S).arr, (envTy_of hT S).cmp⟩
  exact meets_fix hT' (op_sound hT' fun f fs s h => lookS_meets hS h) (fun f fs s h => lookS_still hst h) hm hf hb hres hok.1 hok.2

/-! ### Words of the plain texts -/
/-- the empty string -/
def em : ByteArray := ⟨#[]⟩
def w64 (x : Int) : Int := IntKind.wrap .i64 x
theorem w64_id {x : Int} (h0 : -9223372036854775808 ≤ x) (h1 : x ≤ 9223372036854775807) : w64 x = x := by
  unfold w64 IntKind.wrap
  simp [IntKind.bits, IntKind.signed]
  omega
theorem cT {α : Type} {c : Bool} {x y : α} (h : c = true) : cond c x y = x := by rw [h]; rfl
theorem cF {α : Type} {c : Bool} {x y : α} (h : c = false) : cond c x y = y := by rw [h]; rfl
end Go.Abs
set_option linter.unusedVariables false
set_option linter.unusedSimpArgs false
/-! ### Contracts of the library's functions, in the evaluator's words -/
namespace Go.Proofs
open Go.Shelf Go.RowKit Go.Lib
variable {P : Program} {ρ : Ren}

set_option maxHeartbeats 2000000 in
set_option maxRecDepth 100000 in
/-- slices.Clone of an empty slice that is not nil -/
theorem clone_zero (L : SlLaysE0.n41 P ρ) (i0 : TypeInfo) (z : Value) (size bytes : Nat) (hi : P.info? (ρ.t 23) = some i0) (hz0 : i0.zero = some z) (hz1 : i0.size = size) (hz2 : i0.bytes = bytes) (hzs : z.cells.size = size) (hsz : 0 < size)
    (z23 : ∀ w, (Go.sizeOf (ρ.t 23)).run P w = .ok size w) (a : Addr) (c : Nat) (w : World) :
    Calls P (ρ.f 41) #[.slice (some a) 0 c] w fun e w' => ∃ v', e = .returned v' ∧ w'.ownsRow w.heap.size (ρ.t 23) size v' 0 [] ∧ v' ≠ .slice none 0 0 ∧ Below w.heap.size w w' := by
  have mixed := L.mixed; have t4 := L.t4; have a4 := L.a4; have z4 := L.z4; have v4 := L.v4; have t22 := L.t22; have a22 := L.a22; have z22 := L.z22; have v22 := L.v22
  have q22 : ∀ (w : World) (a : Option Addr) (n c n' c' : Nat), (binOp .eql (ρ.t 22) (.slice a n c) (.slice none n' c')).run P w = .ok (.bool a.isNone) w := fun w a n c n' c' => Lib.run_eql_slice_nil w _ _ a n c n' c' L.t22
  have u22 : ∀ w, Sem.run P (underlying (ρ.t 22)) w = .ok (TypeDesc.slice (ρ.t 23)) w := run_underlying t22
  obtain ⟨_, _, FG⟩ := L.f41
  go_enter FG, SlBodyN.n41_ntmps ρ
  go_wp2_with (at_builtin; refine wpList_append_own _ rfl _ _ (ρ.t 22) rfl w.heap.size (ρ.t 23) i0 z size bytes t22 hi hz0 hz1 hz2 hzs hsz _ _ _ rfl (World.ownsRow_made w #[] 0 (Nat.le_refl _) (Nat.zero_le _) (by simp)) a 0 c [] rfl ?qc1 ?qc2 ?qc3 ?qc4 ?qc5 ?qc6 ?_)
  case qc1 => simp
  case qc2 => intro j u hj; simp at hj
  case qc3 => intro u hu; cases hu
  case qc4 => unfold maxLen; omega
  case qc5 => omega
  case qc6 => simp
  intro v' w1 hown hgrow hnil
  go_wp2
  go_ret
  refine ⟨v', rfl, by simpa using hown, ?_, ?_⟩
  · exact hnil
  · exact ((Below.refl _ w).alloc (Nat.le_refl _) _).grown hgrow (by simp) (by intro k hk; simp [Value.ownBlock] at hk; omega)
end Go.Proofs
namespace Go.Abs
open Go Go.Proofs Go.Shelf Go.RowKit Go.Lib
variable {P : Program}

theorem went_same {w : World} {S Fa : Fp} (hF : ∀ b, ¬ Fa b) (hS : ∀ b, S b → b < w.heap.size) : Went w w S (fun _ => False) Fa S (fun _ => False) (fun _ => False) :=
  { hw := fun _ _ _ => rfl
    hsz := Nat.le_refl _
    hsame := Same.refl w
    h1 := fun b h => h.elim (fun h => h) fun h => h.elim
    h2 := fun b h => .inl h
    h3 := hS
    h4 := fun b h => (h.elim (fun h => h) fun h => h).elim
    h5 := fun b h => h.elim }

def clone1 {α : Type} (B : Nat) (xs : List α) : Option (List α) := bif decide (xs.length ≤ room B) then some xs else none
abbrev cloneS (e : Ty) (d B : Nat) : Abs.Sum := ⟨.cons (.val (.list e)) .nil, [(d, .list e)], fun _ x => clone1 B x⟩

/-- a row of its own bears a list -/
theorem grown_rep {w' : World} {S : Fp} {base : Nat} {te : TypeId} {e : Ty} {d : Nat} {xs : List e.den} {v' : Value} {news : List Value} (h : w'.ownsRow base te e.size v' xs.length news) (hv : v' ≠ .slice none 0 0) (hd : (d == 1 || (e.flat && decide (1 ≤ d))) = true)
    (hn : ∀ i (h : i < xs.length), rep w' S e 0 xs[i] ((news.drop (i * e.size)).take e.size) (fun _ => False)) :
    rep w' S (.list e) d xs [v'] (fun b => base ≤ b ∧ b < w'.heap.size ∧ ∃ c n, v' = .slice (some ⟨b, c, none⟩) xs.length n) := by
  obtain ⟨hl, h | ⟨g, cap, cur, rfl, h1, h2, h3, h4, h5, h6⟩⟩ := h
  · exact absurd h.1 hv
  have hd1 : 0 < d := by
    simp only [Bool.or_eq_true, beq_iff_eq, Bool.and_eq_true, decide_eq_true_eq] at hd
    omega
  have hg : g < w'.heap.size := (Array.getElem?_eq_some_iff.1 h2).1
  refine .inr ⟨g, 0, cap, cur, fun _ => False, rfl, h3, by rw [h5]; omega, ⟨fun _ _ => False, fun i hi => ?_, fun _ _ _ _ _ h => h.elim, fun b => ⟨fun h => h.elim, fun ⟨_, _, h⟩ => h⟩⟩,
    .inr ⟨hd1, ⟨te, 0, 0, h2, fun i _ => by omega⟩, fun h => h, fun b' => ?_⟩⟩
  · have hs : seg cur (0 + i * e.size) e.size = (news.drop (i * e.size)).take e.size := by
      rw [← h6]
      unfold seg
      rw [Nat.zero_add, List.drop_take, List.take_take]
      congr 1
      have : i * e.size + e.size ≤ xs.length * e.size := by
        rw [← Nat.succ_mul]; exact Nat.mul_le_mul_right _ hi
      omega
    rw [hs]
    have h0 := hn i hi
    simp only [Bool.or_eq_true, beq_iff_eq, Bool.and_eq_true, decide_eq_true_eq] at hd
    rcases hd with rfl | ⟨hf, _⟩
    · exact h0
    · exact rep_flat hf h0
  · constructor
    · rintro ⟨_, _, c, n, hh⟩
      simp only [Value.slice.injEq, Option.some.injEq, Addr.mk.injEq] at hh
      exact .inl hh.1.1.symm
    · rintro (rfl | h)
      · exact ⟨h1, hg, 0, cap, rfl⟩
      · exact h.elim

theorem clone_keeps {ρ : Ren} (L : SlLaysE0.n41 P ρ) {f te : Nat} {e : Ty} (hf : ρ.f 41 = f) (hte : ρ.t 23 = te) (ht : TyOk P te e) {d B : Nat} (hB : ∀ i, P.info? te = some i → i.bytes = B) (hd : (d == 1 || (e.flat && decide (1 ≤ d))) = true) :
    Keeps P f (cloneS e d B) := by
  subst hf hte
  intro n w args x y S Fa hy ha hdis hS hFa hgl
  simp only [cloneS, clone1] at hy
  cases hr : decide ((x : List e.den).length ≤ room B) with
  | false => rw [hr] at hy; cases hy
  | true =>
    rw [hr] at hy
    simp only [cond_true] at hy
    cases hy
    have hroom : (x : List e.den).length ≤ room B := of_decide_eq_true hr
    simp only [ArgL, Arg] at ha
    obtain ⟨u, us', F1, F2, rfl, ⟨⟨cs, h1, rfl⟩, h2⟩, ⟨rfl, h4⟩, h5, h6⟩ := ha
    have hF : ∀ b, ¬ Fa b := fun b hb => ((h6 b).1 hb).elim (h2 b) (h4 b)
    obtain ⟨ie, z, hi⟩ := ht.inf
    have hib := hB _ hi.info
    have hzs : z.cells.size = e.size := by
      have := rep_len (zero_rep (w := w) (S := fun _ => False) (d := 0) hi.ok)
      simpa using this
    have hbig : (x : List e.den).length * B ≤ 140737488355328 := Nat.le_trans (Nat.mul_le_mul_right _ hroom) (Nat.div_mul_le_self _ _)
    have h63 : (x : List e.den).length ≤ 140737488355328 := Nat.le_trans hroom (Nat.div_le_self _ _)
    have hmax : (x : List e.den).length ≤ maxLen := by unfold maxLen; omega
    have hpos := e.size_pos
    -- the same list, in a row of its own
    have fin : ∀ (w' : World) (v' : Value), rep w' S (.list e) d x [v'] (fun b => w.heap.size ≤ b ∧ b < w'.heap.size ∧ ∃ c n, v' = .slice (some ⟨b, c, none⟩) (x : List e.den).length n) → Below w.heap.size w w' →
        ∃ us S' Fr Fo, Ending.returned v' = .returned (retV us) ∧ Went w w' S (fun _ => False) Fa S' Fr Fo ∧ ResL w' S' [(d, .list e)] (DL.left (b := []) x) us Fr ∧ ArgL w' S' (Par.cons .skip .nil) () [(Ty.list e).wrap cs] Fo := by
      intro w' v' hv hb
      refine ⟨[v'], S, fun b => w.heap.size ≤ b ∧ b < w'.heap.size ∧ ∃ c n, v' = .slice (some ⟨b, c, none⟩) (x : List e.den).length n, fun _ => False, rfl, ?_, ?_, ?_⟩
      rotate_left
      · simp only [ResL]
        exact ⟨[v'], [], _, fun _ => False, rfl, hv, ⟨rfl, fun _ h => h⟩, fun _ _ h => h, fun b => ⟨.inl, fun h => h.elim (fun h => h) fun h => h.elim⟩⟩
      · simp only [ArgL, Arg]
        exact ⟨_, [], fun _ => False, fun _ => False, rfl, fun _ h => h, ⟨rfl, fun _ h => h⟩, fun _ _ h => h, fun b => ⟨.inl, fun h => h.elim (fun h => h) fun h => h⟩⟩
      · exact { hw := fun b h _ => hb.block b h
                hsz := hb.size
                hsame := ⟨hb.os, hb.tape, hb.output⟩
                h1 := fun b h => h.elim (fun h => h) fun h => h.elim
                h2 := fun b h => .inl h
                h3 := fun b h => Nat.lt_of_lt_of_le (hS b h) hb.size
                h4 := fun b h => h.elim (fun h => ⟨.inr h.1, fun hs => absurd (hS b hs) (by omega), h.2.1⟩) fun h => h.elim
                h5 := fun b _ h => h }
    have h1' : rep w S (.list e) 0 (x : List e.den) cs (fun _ => False) := h1
    have post : ∀ (w' : World) (v' : Value), (∃ us S' Fr Fo, Ending.returned v' = .returned (retV us) ∧ Went w w' S (fun _ => False) Fa S' Fr Fo ∧ ResL w' S' [(d, .list e)] (DL.left (b := []) x) us Fr ∧ ArgL w' S' (Par.cons .skip .nil) () [(Ty.list e).wrap cs] Fo) →
        ∃ us S' Fr Fo, Ending.returned v' = .returned (retV us) ∧ Went w w' S (fun _ => False) Fa S' Fr Fo ∧ ResL w' S' (cloneS e d B).res (DL.left x) us Fr ∧ ArgL w' S' (cloneS e d B).pars.outTop (DL.right x) [(Ty.list e).wrap cs] Fo := fun _ _ h => h
    rcases h1' with ⟨⟨A, rfl⟩, hx, _⟩ | ⟨b, o, c, arr, G, rfl, g1, g2, g3, g4⟩
    · cases A with
      | none =>
        refine Calls.mono (AnyE.slices_Clone_nil L 0 0 w) ?_
        rintro e' w' ⟨rfl, rfl⟩
        refine post _ _ (fin _ _ (.inl ⟨⟨none, rfl⟩, hx, fun b hb => ?_⟩) (Below.refl _ _))
        obtain ⟨_, _, _, _, h⟩ := hb
        cases h
      | some A =>
        refine Calls.mono (clone_zero L ie z e.size B hi.info hi.zero hi.size hib hzs hpos (fun w => ht.size w) A 0 w) ?_
        rintro e' w' ⟨v', rfl, k1, k2, k3⟩
        refine post _ _ (fin _ _ (grown_rep (news := []) (by rw [hx]; exact k1) k2 hd fun i hi => by rw [hx] at hi; simp at hi) k3)
    · obtain ⟨_, hHas, hSb, _⟩ | ⟨h, _⟩ := g4
      · have hc : (x : List e.den).length * e.size ≤ c * e.size := Nat.mul_le_mul_right _ g1
        refine Calls.mono (AnyE.slices_Clone L ie z e.size B hi.info hi.zero hi.size hib hzs hpos (fun w => ht.size w) b o (x : List e.den).length c (seg arr o ((x : List e.den).length * e.size)) w (seg_len (by omega)) hmax hbig ?_ ?_) ?_
        · intro j u hj
          rw [hHas.cell]
          rw [seg_get] at hj
          split at hj
          · exact hj
          · cases hj
        · obtain ⟨G', q1, _⟩ := g3
          exact rows_one q1
        · rintro e' w' ⟨v', rfl, k1, k2, k3⟩
          refine post _ _ (fin _ _ (grown_rep k1 k2 hd fun i hi => ?_) k3)
          obtain ⟨G', q1, q2, q3⟩ := g3
          have h0 := q1 i hi
          rw [seg_seg (by rw [← Nat.succ_mul]; exact Nat.mul_le_mul_right _ hi)]
          have hG : ∀ b, ¬ G' i b := rep_none (.inl rfl) h0
          refine rep_frame (fun _ h => h) (fun b hb => k3.block b (hS b hb)) (fun _ h => h.elim) (rep_iff h0 fun b => ⟨fun h => h.elim, fun h => hG b h⟩)
      · omega

/-- strings.Contains of one byte -/
def contains1 (s t : ByteArray) : Option Bool := bif Nat.beq t.size 1 then some (decide (0 ≤ Go.Lib.indexByte s.data.toList (t.data.getD 0 0))) else none
abbrev containsS : Abs.Sum := ⟨.cons (.val .str) (.cons (.val .str) .nil), [(0, .bool)], fun _ x => contains1 x.1 x.2⟩
theorem one_byte {t : ByteArray} (h : t.size = 1) : t = ⟨#[t.data.getD 0 0]⟩ := by
  obtain ⟨⟨l⟩⟩ := t
  match l, h with
  | [c], _ => rfl
theorem contains_keeps {f : Nat} (h : ∀ (s : ByteArray) (c : UInt8) (w : World), Calls P f #[.string s, .string ⟨#[c]⟩] w fun e w' => e = .returned (.bool (decide (0 ≤ Go.Lib.indexByte s.data.toList c))) ∧ w' = w) : Keeps P f containsS := by
  intro n w args x y S Fa hy ha hdis hS hFa hgl
  simp only [containsS, contains1] at hy
  cases hr : Nat.beq (x : ByteArray × ByteArray).2.size 1 with
  | false => rw [hr] at hy; cases hy
  | true =>
    rw [hr] at hy
    simp only [cond_true] at hy
    cases hy
    have h1 := Nat.eq_of_beq_eq_true hr
    simp only [ArgL, Arg] at ha
    obtain ⟨u, us', F1, F2, rfl, ⟨⟨cs, h2, rfl⟩, h3⟩, ⟨u', us2, F3, F4, rfl, ⟨⟨cs', h4, rfl⟩, h5⟩, ⟨rfl, h6⟩, h7, h8⟩, h9, h10⟩ := ha
    have hF : ∀ b, ¬ Fa b := fun b hb => ((h10 b).1 hb).elim (h3 b) fun h => ((h8 b).1 h).elim (h5 b) (h6 b)
    have e1 : cs = [.string (x : ByteArray × ByteArray).1] := h2.1
    have e2 : cs' = [.string (x : ByteArray × ByteArray).2] := h4.1
    subst e1 e2
    have := h (x : ByteArray × ByteArray).1 ((x : ByteArray × ByteArray).2.data.getD 0 0) w
    rw [← one_byte h1] at this
    refine Calls.mono this ?_
    rintro e w' ⟨rfl, rfl⟩
    refine ⟨[_], S, fun _ => False, fun _ => False, rfl, went_same hF hS, ?_, ?_⟩
    · simp only [ResL]
      exact ⟨[.bool _], [], fun _ => False, fun _ => False, rfl, ⟨rfl, fun _ h => h⟩, ⟨rfl, fun _ h => h⟩, fun _ _ h => h, fun b => ⟨.inl, fun h => h.elim (fun h => h) fun h => h⟩⟩
    · simp only [ArgL, Arg, Par.outTop]
      exact ⟨_, _, fun _ => False, fun _ => False, rfl, fun _ h => h, ⟨_, _, fun _ => False, fun _ => False, rfl, fun _ h => h, ⟨rfl, fun _ h => h⟩, fun _ _ h => h, fun b => ⟨.inl, fun h => h.elim (fun h => h) fun h => h⟩⟩, fun _ _ h => h, fun b => ⟨.inl, fun h => h.elim (fun h => h) fun h => h⟩⟩
theorem bytesIs {te B : Nat} (h : (P.info? te).map (·.bytes) = some B) : ∀ i, P.info? te = some i → i.bytes = B := by
  intro i hi
  rw [hi] at h
  exact Option.some.inj h
theorem tyOk_tab {A : ArrTab} {T : TyTab} (h : tabOk P A T = true) {t b : Nat} {τ : Ty} (hk : look t T = some (τ, b)) : TyOk P t τ := ((envTy_of h ([] : SumTab)).ok (t := t) (τ := τ) (b := b) hk).1
end Go.Abs
set_option linter.unusedVariables false
set_option linter.unusedSimpArgs false
/-! ### Contracts of further library functions, in the evaluator's words -/
namespace Go.Abs
open Go Go.Proofs Go.Shelf Go.RowKit Go.Lib
variable {P : Program}

theorem went_below {w w' : World} {S Fa : Fp} (hb : Below w.heap.size w w') (hF : ∀ b, ¬ Fa b) (hS : ∀ b, S b → b < w.heap.size) : Went w w' S (fun _ => False) Fa S (fun _ => False) (fun _ => False) :=
  { hw := fun b h _ => hb.block b h
    hsz := hb.size
    hsame := ⟨hb.os, hb.tape, hb.output⟩
    h1 := fun b h => h.elim (fun h => h) fun h => h.elim
    h2 := fun b h => .inl h
    h3 := fun b h => Nat.lt_of_lt_of_le (hS b h) hb.size
    h4 := fun b h => (h.elim (fun h => h) fun h => h).elim
    h5 := fun b h => h.elim }

/-- strings.Trim at an ASCII cutset -/
def trim1 (s t : ByteArray) : Option ByteArray := bif decide (s.size ≤ 1099511627776) && (decide (t.size < 4294967281) && t.data.toList.all (fun b => decide (b.toNat < 128))) then some ⟨(Go.Lib.trimS s.data.toList t.data.toList).toArray⟩ else none
abbrev trimSm : Abs.Sum := ⟨.cons (.val .str) (.cons (.val .str) .nil), [(0, .str)], fun _ x => trim1 x.1 x.2⟩
theorem trim_keeps {f : Nat} (h : ∀ (s t : ByteArray) (w : World), s.size ≤ 9223372036854775807 → t.size < 4294967281 → (∀ (j : Nat) b, t.data.toList[j]? = some b → b.toNat < 128) →
    Calls P f #[.string s, .string t] w fun e w' => e = .returned (.string ⟨(Go.Lib.trimS s.data.toList t.data.toList).toArray⟩) ∧ Below w.heap.size w w') : Keeps P f trimSm := by
  intro n w args x y S Fa hy ha hdis hS hFa hgl
  simp only [trimSm, trim1] at hy
  cases hr : (decide ((x : ByteArray × ByteArray).1.size ≤ 1099511627776) && (decide ((x : ByteArray × ByteArray).2.size < 4294967281) && (x : ByteArray × ByteArray).2.data.toList.all (fun b => decide (b.toNat < 128)))) with
  | false => rw [hr] at hy; cases hy
  | true =>
    rw [hr] at hy
    simp only [cond_true] at hy
    cases hy
    simp only [Bool.and_eq_true, decide_eq_true_eq] at hr
    obtain ⟨h1, h2, h3⟩ := hr
    simp only [ArgL, Arg] at ha
    obtain ⟨u, us', F1, F2, rfl, ⟨⟨cs, k2, rfl⟩, k3⟩, ⟨u', us2, F3, F4, rfl, ⟨⟨cs', k4, rfl⟩, k5⟩, ⟨rfl, k6⟩, k7, k8⟩, k9, k10⟩ := ha
    have hF : ∀ b, ¬ Fa b := fun b hb => ((k10 b).1 hb).elim (k3 b) fun h => ((k8 b).1 h).elim (k5 b) (k6 b)
    have e1 : cs = [.string (x : ByteArray × ByteArray).1] := k2.1
    have e2 : cs' = [.string (x : ByteArray × ByteArray).2] := k4.1
    subst e1 e2
    refine Calls.mono (h (x : ByteArray × ByteArray).1 (x : ByteArray × ByteArray).2 w (by omega) h2 (fun _ b hb => of_decide_eq_true (List.all_eq_true.1 h3 b (List.mem_of_getElem? hb)))) ?_
    rintro e w' ⟨rfl, hb⟩
    refine ⟨[_], S, fun _ => False, fun _ => False, rfl, went_below hb hF hS, ?_, ?_⟩
    · simp only [ResL]
      exact ⟨[.string _], [], fun _ => False, fun _ => False, rfl, ⟨rfl, fun _ h => h⟩, ⟨rfl, fun _ h => h⟩, fun _ _ h => h, fun b => ⟨.inl, fun h => h.elim (fun h => h) fun h => h⟩⟩
    · simp only [ArgL, Arg, Par.outTop]
      exact ⟨_, _, fun _ => False, fun _ => False, rfl, fun _ h => h, ⟨_, _, fun _ => False, fun _ => False, rfl, fun _ h => h, ⟨rfl, fun _ h => h⟩, fun _ _ h => h, fun b => ⟨.inl, fun h => h.elim (fun h => h) fun h => h⟩⟩, fun _ _ h => h, fun b => ⟨.inl, fun h => h.elim (fun h => h) fun h => h⟩⟩
/-- strconv.Itoa -/
def itoaOk (n : Int) : Bool := decide (-9223372036854775808 ≤ n) && decide (n ≤ 9223372036854775807)
def itoa1 (n : Int) : Option ByteArray := bif itoaOk n then some ⟨(Go.Lib.itoa n).toArray⟩ else none
abbrev itoaSm : Abs.Sum := ⟨.cons (.val (.int .i64)) .nil, [(0, .str)], fun _ x => itoa1 x⟩
theorem itoa_keeps {f g : Nat} (hg : P.globalNamed "internal/strconv.uint64pow10.not" = some g) (h : ∀ (n : Int) (w : World), -9223372036854775808 ≤ n → n ≤ 9223372036854775807 → Lib.TabIs P w "internal/strconv.uint64pow10.not" .u64 Lib.pow10Tab →
    Calls P f #[.int .i64 n] w fun e w' => e = .returned (.string ⟨(Go.Lib.itoa n).toArray⟩) ∧ Below w.heap.size w w') : Keeps P f itoaSm := by
  intro n w args x y S Fa hy ha hdis hS hFa hgl
  simp only [itoaSm, itoa1] at hy
  cases hr : itoaOk x with
  | false => rw [hr] at hy; cases hy
  | true =>
    rw [hr] at hy
    simp only [cond_true] at hy
    cases hy
    simp only [itoaOk, Bool.and_eq_true, decide_eq_true_eq] at hr
    simp only [ArgL, Arg] at ha
    obtain ⟨u, us', F1, F2, rfl, ⟨⟨cs, h1, rfl⟩, h2⟩, ⟨rfl, h4⟩, h5, h6⟩ := ha
    have hF : ∀ b, ¬ Fa b := fun b hb => ((h6 b).1 hb).elim (h2 b) (h4 b)
    have e1 : cs = [.int .i64 (x : Int)] := h1.1
    subst e1
    refine Calls.mono (h (x : Int) w hr.1 hr.2 (hgl g hg).2) ?_
    rintro e w' ⟨rfl, hb⟩
    refine ⟨[_], S, fun _ => False, fun _ => False, rfl, went_below hb hF hS, ?_, ?_⟩
    · simp only [ResL]
      exact ⟨[.string _], [], fun _ => False, fun _ => False, rfl, ⟨rfl, fun _ h => h⟩, ⟨rfl, fun _ h => h⟩, fun _ _ h => h, fun b => ⟨.inl, fun h => h.elim (fun h => h) fun h => h⟩⟩
    · simp only [ArgL, Arg, Par.outTop]
      exact ⟨_, [], fun _ => False, fun _ => False, rfl, fun _ h => h, ⟨rfl, fun _ h => h⟩, fun _ _ h => h, fun b => ⟨.inl, fun h => h.elim (fun h => h) fun h => h⟩⟩
/-- what a card's row lays, in the evaluator's words -/
theorem gl_of_laid {W : World} {laid : List (String × DataW Unit)} {g t e : Nat} (hg : P.globalNamed "internal/strconv.uint64pow10.not" = some g) (hty : (P.globals[g]?).map (·.type) = some t) (ht : P.underlying t = some (.array 20 e)) (he : P.underlying e = some (.int .u64)) (hce : P.cellsOf e = 1) (hct : P.cellsOf t = 20)
    (hp : (laid.all fun x => x.2.handleName?.isNone) = true) (hL : laidMetH P laid W) (hm : ("internal/strconv.uint64pow10.not", (Lib.tabData .u64 Lib.pow10Tab : DataW Unit)) ∈ laid) : Gl P W (fun b => b < W.heap.size) := by
  rw [MakeChecks.laidMetH_plain _ _ _ hp] at hL
  obtain ⟨g', t', cs, fuel, p, hg', ht', hvar, hd⟩ := Lib.laidMet.reads hL hm
  obtain rfl := Option.some.inj (hg.symm.trans hg')
  obtain rfl := Option.some.inj (hty.symm.trans ht')
  have hv : W.var? P "internal/strconv.uint64pow10.not" = some (Lib.pow10Tab.map fun z => Value.int .u64 z).toArray := by
    rw [hvar, ← show cs.toList = _ from Lib.cells_of_tab ht he hce hct hd]
  intro g2 hg2
  obtain rfl := Option.some.inj (hg.symm.trans hg2)
  refine ⟨?_, hv⟩
  rw [World.var?, hg, Option.bind_some] at hv
  show g < W.heap.size
  cases hh : W.heap[g]? with
  | none => rw [hh] at hv; cases hv
  | some o => exact (Array.getElem?_eq_some_iff.1 hh).1
theorem gl_none {W : World} (h : P.globalNamed "internal/strconv.uint64pow10.not" = none) : Gl P W (fun b => b < W.heap.size) := by
  intro g hg
  rw [h] at hg; cases hg
end Go.Abs
set_option linter.unusedVariables false
set_option linter.unusedSimpArgs false
/-! ### What slices.Insert and slices.Replace do with a row of their own -/
namespace Go.Abs
open Go Go.Proofs Go.Shelf Go.RowKit Go.Lib
variable {P : Program}

theorem has_shape {w : World} {b : Nat} {c : Array Value} (h : Has w b c) : ∃ t, w.shape? b = some (t, c.size) := by
  obtain ⟨e, fr, h⟩ := h
  exact ⟨e, by simp [World.shape?, h]⟩
theorem Own.mark {w : World} {b : Nat} {c : Array Value} (h : Own 1 w b c) : w.frozen? ⟨b, c.size, none⟩ = false := by
  obtain ⟨e, lo, hi, h, g⟩ := h
  have := g c.size (by omega)
  simp [World.frozen?, h]
  omega
/-- two slices in two blocks, the second one of its own: they do not overlap -/
theorem overlaps_snd (w : World) (tS tR e : TypeId) (ht : P.underlying tS = some (.slice e)) (size : Nat) (hz : ∀ w, (Go.sizeOf e).run P w = .ok size w)
    (a b : Addr) (la ca lb cb : Nat) (hne : a.block ≠ b.block) {A B : Array Value} (ha : Has w a.block A) (hA : 0 < A.size) (hb : Own 1 w b.block B) (hB : b.off < B.size) (hs : b.spot = none) :
    (Extern.SlicesOverlaps.overlaps #[tS, tS] #[tR] #[.slice (some a) la ca, .slice (some b) lb cb]).run P w = .ok (.bool false) w := by
  obtain ⟨tA, hsa⟩ := has_shape ha
  obtain ⟨tB, hsb⟩ := has_shape hb.has
  have hfb : w.frozen? b = false := by
    obtain ⟨bb, bo, bs⟩ := b
    simp only at hs hB hb
    subst hs
    exact hb.frozen hB
  have hfe : w.frozen? { block := b.block, off := B.size } = false := hb.mark
  have hnb : (a.block != b.block) = true := by simpa using hne
  have hnb' : (a.block == b.block) = false := by simpa using hne
  change Sem.run P (α := Value) (do
    let some t := (#[tS, tS] : Array TypeId)[0]? | stuck "slices.overlaps: no parameter types"
    let .slice elem ← underlying t | stuck "slices.overlaps: slice type expected"
    let size ← sizeOf elem
    match (some a : Option Addr), (some b : Option Addr) with
    | some a, some b =>
      if la = 0 ∨ lb = 0 ∨ size = 0 then pure (Value.bool false)
      else if a.block != b.block && (← frozen a) && (← frozen b) then unsupported .addressObserved
      else do
        if a.block != b.block then do
          noView a; noView b
          if ← mayBeOne a b then return Value.bool ((← choose (.extern "sameAddr.stringBytes" 2)) == 1)
        pure (Value.bool (a.block == b.block && a.off < b.off + lb * size && b.off < a.off + la * size))
    | _, _ => pure (Value.bool false)) w = _
  by_cases h0 : la = 0 ∨ lb = 0 ∨ size = 0
  · simp [run_underlying ht, hz, h0]
  · obtain ⟨k, hk⟩ : ∃ k, A.size = k + 1 := ⟨A.size - 1, by omega⟩
    rw [hk] at hsa
    cases hfa : w.frozen? a <;> cases hfa2 : w.frozen? { block := a.block, off := k + 1 } <;>
      simp [run_underlying ht, hz, h0, hnb, hnb', frozen, noView, viewAt, mayBeOne, stringish, shape, Sem.run, hsa, hsb, hfa, hfa2, hfb, hfe]
/-- and the other way round -/
theorem overlaps_fst (w : World) (tS tR e : TypeId) (ht : P.underlying tS = some (.slice e)) (size : Nat) (hz : ∀ w, (Go.sizeOf e).run P w = .ok size w)
    (a b : Addr) (la ca lb cb : Nat) (hne : a.block ≠ b.block) {A B : Array Value} (ha : Own 1 w a.block A) (hA : a.off < A.size) (hs : a.spot = none) (hb : Has w b.block B) (hB : 0 < B.size) :
    (Extern.SlicesOverlaps.overlaps #[tS, tS] #[tR] #[.slice (some a) la ca, .slice (some b) lb cb]).run P w = .ok (.bool false) w := by
  obtain ⟨tA, hsa⟩ := has_shape ha.has
  obtain ⟨tB, hsb⟩ := has_shape hb
  have hfa : w.frozen? a = false := by
    obtain ⟨bb, bo, bs⟩ := a
    simp only at hs hA ha
    subst hs
    exact ha.frozen hA
  have hfe : w.frozen? { block := a.block, off := A.size } = false := ha.mark
  have hnb : (a.block != b.block) = true := by simpa using hne
  have hnb' : (a.block == b.block) = false := by simpa using hne
  change Sem.run P (α := Value) (do
    let some t := (#[tS, tS] : Array TypeId)[0]? | stuck "slices.overlaps: no parameter types"
    let .slice elem ← underlying t | stuck "slices.overlaps: slice type expected"
    let size ← sizeOf elem
    match (some a : Option Addr), (some b : Option Addr) with
    | some a, some b =>
      if la = 0 ∨ lb = 0 ∨ size = 0 then pure (Value.bool false)
      else if a.block != b.block && (← frozen a) && (← frozen b) then unsupported .addressObserved
      else do
        if a.block != b.block then do
          noView a; noView b
          if ← mayBeOne a b then return Value.bool ((← choose (.extern "sameAddr.stringBytes" 2)) == 1)
        pure (Value.bool (a.block == b.block && a.off < b.off + lb * size && b.off < a.off + la * size))
    | _, _ => pure (Value.bool false)) w = _
  by_cases h0 : la = 0 ∨ lb = 0 ∨ size = 0
  · simp [run_underlying ht, hz, h0]
  · obtain ⟨k, hk⟩ : ∃ k, B.size = k + 1 := ⟨B.size - 1, by omega⟩
    rw [hk] at hsb
    cases hfb : w.frozen? b <;> cases hfb2 : w.frozen? { block := b.block, off := k + 1 } <;>
      simp [run_underlying ht, hz, h0, hnb, hnb', frozen, noView, viewAt, mayBeOne, stringish, shape, Sem.run, hsa, hsb, hfa, hfb, hfb2, hfe]

/-! #### rows of strings -/
def Row (w : World) (v : Value) (xs : List ByteArray) (b : Nat) : Prop :=
  ∃ o c arr, v = .slice (some ⟨b, o, none⟩) xs.length c ∧ xs.length ≤ c ∧ o + c ≤ arr.size ∧ Own 1 w b arr ∧ ∀ k, k < xs.length → arr[o + k]? = (xs.map Value.string)[k]?
/-- what is behind: a row with other elements, where it was or in new memory -/
def Out (w w' : World) (b : Nat) (v' : Value) (ys : List ByteArray) : Prop :=
  ∃ b', Row w' v' ys b' ∧ Same w w' ∧ w.heap.size ≤ w'.heap.size ∧ (∀ k, k < w.heap.size → k ≠ b → w'.heap[k]? = w.heap[k]?) ∧ (b' = b ∨ w.heap.size ≤ b')
theorem str_one {xs : List ByteArray} : ∀ v ∈ xs.map Value.string, v.oneCell' = true := by
  intro v hv
  obtain ⟨x, _, rfl⟩ := List.mem_map.1 hv
  rfl
theorem copy_own {q : Nat} {W : World} {b : Nat} {arr : Array Value} (hO : Own q W b arr) {dT sT ty elem : TypeId} (hu : P.underlying dT = some (.slice elem)) (hs : (P.info? elem).map (·.size) = some 1)
    {o dl dc sl sc : Nat} {a : Addr} {cs : List Value} (hn : cs.length = Nat.min sl dl) (hsrc : ∀ j v, cs[j]? = some v → W.cell? (a.add j) = some v) (ho : o + cs.length ≤ arr.size) (h1 : ∀ v ∈ cs, v.oneCell' = true) :
    ∃ w', (Builtin.copy_ #[dT, sT] ty #[.slice (some ⟨b, o, none⟩) dl dc, .slice (some a) sl sc]).run P W = .ok (goInt cs.length) w' ∧ Own q w' b (ovr arr o cs) ∧ w'.heap.size = W.heap.size ∧ (∀ k, k ≠ b → w'.heap[k]? = W.heap[k]?) ∧ Same W w' := by
  refine ⟨_, run_copy_cells W dT sT ty elem b o dl dc a sl sc cs hu hs hn hsrc (fun j hj => ?_) (fun j hj => hO.frozen (by omega)) h1, setCells_own cs W o arr hO⟩
  rw [hO.has.cell, Array.getElem?_eq_getElem (by omega)]; rfl
theorem wpList_copy_E (w : World) {ops : Array Oper} {rest : List Oper} {o : Oper} {a : Act} {Q : Exit → Act → World → Prop} (hgd : o.guard = none) (d s : Operand) (t t' : TypeId)
    (ho : o.op = .call { callee := .builtin .copy, args := #[d, s], argTypes := #[t, t'] }) (v u : Value) (hd : a.eval d = v) (hs : a.eval s = u) {v' : Value} {R : World → Prop}
    (hr : ∃ w', (Builtin.copy_ #[t, t'] o.type #[v, u]).run P w = .ok v' w' ∧ R w') (h : ∀ w', R w' → wpList P ops Q rest (a.put o.dst v') w') : wpList P ops Q (o :: rest) a w := by
  obtain ⟨w', h1, h2⟩ := hr
  exact wpList_copy_runI w hgd d s t t' ho v u hd hs h1 (h w' h2)
theorem step_copy_E {ops : Array Oper} {o : Oper} {a : Act} {w : World} {K : Act → World → Prop} {Q : Exit → Act → World → Prop} {E : Prop}
    (hg : o.guard = none) (d x : Operand) (dT sT : TypeId) (hop : o.op = Op.call { callee := Callee.builtin Builtin.copy, args := #[d, x], argTypes := #[dT, sT] })
    (v u : Value) (hd : a.eval d = v) (hx : a.eval x = u) {v' : Value} {R : World → Prop} (hr : ∃ w', (Builtin.copy_ #[dT, sT] o.type #[v, u]).run P w = .ok v' w' ∧ R w') (hK : ∀ w', R w' → K (a.put o.dst v') w') :
    if Region.wanted o (yielded ops a.tmps) = true then Oper.wp P o a w K Q else E := by
  obtain ⟨w', h1, h2⟩ := hr
  exact step_copy_runI hg d x dT sT hop v u hd hx h1 (hK w' h2)
theorem wpList_append_E (w : World) {ops : Array Oper} {rest : List Oper} {o : Oper} {a : Act} {Q : Exit → Act → World → Prop} (hgd : o.guard = none) (s x : Operand) (t tn : TypeId)
    (ho : o.op = .call { callee := .builtin .append, args := #[s, x], argTypes := #[t, tn] }) (vs vx : Value) (hs : a.eval s = vs) (hx : a.eval x = vx) {R : Value → World → Prop}
    (hr : ∃ v' w', (Builtin.append_ #[t, tn] o.type #[vs, vx]).run P w = .ok v' w' ∧ R v' w') (h : ∀ v' w', R v' w' → wpList P ops Q rest (a.put o.dst v') w') : wpList P ops Q (o :: rest) a w := by
  obtain ⟨v', w', h1, h2⟩ := hr
  exact Lib.wpList_append_run w hgd s x t tn ho vs vx hs hx v' w' h1 (h v' w' h2)
theorem drew_own {q : Nat} {w : World} {b : Nat} {c : Array Value} (h : Own q w b c) : Own q w.drew b c := h
/-- a new row: the first elements, then zero values -/
theorem append_make_E {W : World} {q b : Nat} {arr : Array Value} (hO : Own q W b arr) {t tn ty e : TypeId} {i0 : TypeInfo} {z : Value} (ht : P.underlying t = some (.slice e)) (htn : P.underlying tn = some (.int .i64)) (hi : P.info? e = some i0) (hz : i0.zero = some z) (hs1 : i0.size = 1) (hb16 : i0.bytes = 16)
    (hzc : z.cells.size = 1) {o c i k : Nat} {kI : Int} (hk : kI = (k : Int)) (hic : i ≤ c) (ha : o + c ≤ arr.size) (h0 : 0 < k) (hg : c < i + k) (hbig : (i + k) * 16 ≤ 140737488355328) :
    ∃ v' w', (Builtin.append_ #[t, tn] ty #[.slice (some ⟨b, o, none⟩) i c, .int .i64 kI]).run P W = .ok v' w' ∧
      ∃ G ROW, v' = .slice (some ⟨W.heap.size, 0, none⟩) (i + k) G ∧ i + k ≤ G ∧ G ≤ 9223372036854775807 ∧ Own 1 w' W.heap.size ROW ∧ G ≤ ROW.size ∧ (∀ j, j < i → ROW[j]? = arr[o + j]?) ∧ w'.heap.size = W.heap.size + 1 ∧ (∀ j, j < W.heap.size → w'.heap[j]? = W.heap[j]?) ∧ Same W w' := by
  subst hk
  have hold : (Builtin.firstCells i0.size i (.slice (some ⟨b, o, none⟩) i c)).run P W.drew = .ok (seg arr o i).toArray W.drew := by
    rw [hs1]
    exact run_firstCells_some W.drew 1 i ⟨b, o, none⟩ i c (seg arr o i) (by rw [seg_len (by omega)]; omega) (fun j v hj => by
      rw [Addr.add_lit]
      rw [seg_get] at hj
      split at hj
      · exact (hO.has.cell _).trans hj
      · cases hj)
  have hl : (seg arr o i).length = i := seg_len (by omega)
  refine ⟨_, _, Lib.run_append_grow_zeros W t tn ty e i0 z .i64 .i64 ht htn hi hz (some ⟨b, o, none⟩) i c (seg arr o i) hold k h0 (by omega) hg (by omega) (by rw [hb16]; omega) (by rw [hb16]; exact growslice_fits hg hbig), _, _, rfl, grownCap_ge W _ _ _, ?_, alloc_own, ?_, fun j hj => ?_, alloc_size, fun j hj => alloc_lt j hj, ⟨rfl, rfl, rfl⟩⟩
  · have := grownCap_le_maxLen W (i + k) c e (by unfold maxLen; omega)
    unfold maxLen at this
    omega
  · have := grownCap_ge W (i + k) c e
    simp only [Builtin.zeroCells, Array.size_append, List.size_toArray, hl, hzc, Array.size_map, Array.size_range]
    omega
  · have h3 : j < (seg arr o i).length := by omega
    have h4 : (seg arr o i)[j]? = arr[o + j]? := by rw [seg_get, if_pos hj]
    rw [Array.append_assoc, Array.getElem?_append_left (by simpa using h3), ← h4]
    simp
/-- three parts, one behind the other -/
theorem row_parts {A : Array Value} {xs vs : List ByteArray} {o i j n m : Nat} (hn : xs.length = n) (hm : vs.length = m) (hij : i ≤ j) (hj : j ≤ n) (h1 : ∀ k, k < i → A[o + k]? = (xs.map Value.string)[k]?)
    (h2 : ∀ k, k < m → A[o + (i + k)]? = (vs.map Value.string)[k]?) (h3 : ∀ k, k < n - j → A[o + (i + m + k)]? = (xs.map Value.string)[j + k]?) :
    ∀ k, k < (xs.take i ++ vs ++ xs.drop j).length → A[o + k]? = ((xs.take i ++ vs ++ xs.drop j).map Value.string)[k]? := by
  intro k hk
  have hl : (xs.take i).length = i := by rw [List.length_take]; omega
  simp only [List.length_append, List.length_drop, hl, hm, hn] at hk
  rw [List.map_append, List.map_append]
  by_cases k1 : k < i
  · rw [List.append_assoc, List.getElem?_append_left (by rw [List.length_map, hl]; exact k1), List.map_take, List.getElem?_take, if_pos k1]
    exact h1 k k1
  · by_cases k2 : k < i + m
    · rw [List.getElem?_append_left (by rw [List.length_append, List.length_map, List.length_map, hl, hm]; exact k2), List.getElem?_append_right (by rw [List.length_map, hl]; omega), List.length_map, hl]
      have := h2 (k - i) (by omega)
      rwa [show i + (k - i) = k by omega] at this
    · rw [List.getElem?_append_right (by rw [List.length_append, List.length_map, List.length_map, hl, hm]; omega), List.length_append, List.length_map, List.length_map, hl, hm, List.map_drop, List.getElem?_drop]
      have := h3 (k - (i + m)) (by omega)
      rwa [show i + m + (k - (i + m)) = k by omega] at this
/-- what is put in: strings that stand in another block -/
def Vs (w : World) (A : Option Addr) (m vc : Nat) (vs : List ByteArray) (b : Nat) : Prop :=
  vs.length = m ∧ ((m = 0 ∧ (A = none → vc = 0)) ∨ ∃ vb vo varr, A = some ⟨vb, vo, none⟩ ∧ vb ≠ b ∧ Has w vb varr ∧ vo + m ≤ varr.size ∧ 0 < m ∧ ∀ k, k < m → varr[vo + k]? = (vs.map Value.string)[k]?)
theorem Vs.of_eq {w w' : World} {A : Option Addr} {m vc b : Nat} {vs : List ByteArray} (h : Vs w A m vc vs b) (e : ∀ k, k < w.heap.size → k ≠ b → w'.heap[k]? = w.heap[k]?) : Vs w' A m vc vs b := by
  obtain ⟨h1, h2 | ⟨vb, vo, varr, g1, g2, g3, g4, g5, g6⟩⟩ := h
  · exact ⟨h1, .inl h2⟩
  · exact ⟨h1, .inr ⟨vb, vo, varr, g1, g2, g3.of_eq (e _ g3.lt g2), g4, g5, g6⟩⟩
theorem Vs.cells {w : World} {vb vo m : Nat} {varr : Array Value} {vs : List ByteArray} (h1 : vs.length = m) (g3 : Has w vb varr) (g6 : ∀ k, k < m → varr[vo + k]? = (vs.map Value.string)[k]?) :
    ∀ j v, (vs.map Value.string)[j]? = some v → w.cell? ⟨vb, vo + j, none⟩ = some v := by
  intro j v hj
  have : j < m := by
    have := (List.getElem?_eq_some_iff.1 hj).1
    rw [List.length_map] at this; omega
  rw [g3.cell, g6 j this]; exact hj
theorem Vs.src {w : World} {A : Option Addr} {m vc b : Nat} {vs : List ByteArray} {t te : TypeId} (hu : P.underlying t = some (.slice te)) (h : Vs w A m vc vs b) : Src P 1 t (.slice A m vc) m (vs.map Value.string) w := by
  obtain ⟨h1, ⟨rfl, hA⟩ | ⟨vb, vo, varr, rfl, g2, g3, g4, g5, g6⟩⟩ := h
  · obtain rfl := List.length_eq_zero_iff.1 h1
    cases A with
    | none =>
      obtain rfl := hA rfl
      exact Src.ofNil w hu 0
    | some A => exact Src.ofSlice w hu A 0 vc [] (by simp) (fun j q hj => by simp at hj) (fun _ h => by simp at h)
  · exact Src.ofSlice w hu ⟨vb, vo, none⟩ m vc _ (by rw [List.length_map]; omega) (fun j u hj => by rw [Addr.add_lit]; exact Vs.cells h1 g3 g6 j u hj) str_one
theorem copyv_own {q : Nat} {W : World} {b b' : Nat} {arr : Array Value} (hO : Own q W b arr) {dT sT ty elem : TypeId} (hu : P.underlying dT = some (.slice elem)) (hs : (P.info? elem).map (·.size) = some 1)
    {o dl dc m vc : Nat} {A : Option Addr} {vs : List ByteArray} (hV : Vs W A m vc vs b') (hn : m ≤ dl) (ho : o + m ≤ arr.size) :
    ∃ w', (Builtin.copy_ #[dT, sT] ty #[.slice (some ⟨b, o, none⟩) dl dc, .slice A m vc]).run P W = .ok (goInt m) w' ∧ Own q w' b (ovr arr o (vs.map Value.string)) ∧ w'.heap.size = W.heap.size ∧ (∀ k, k ≠ b → w'.heap[k]? = W.heap[k]?) ∧ Same W w' := by
  obtain ⟨h1, ⟨rfl, _⟩ | ⟨vb, vo, varr, rfl, g2, g3, g4, g5, g6⟩⟩ := hV
  · obtain rfl := List.length_eq_zero_iff.1 h1
    exact ⟨W, run_copy_none W dT sT ty elem _ _ _ _ _ _ hu hs (by simp only [Nat.min_def]; split <;> omega), hO, rfl, fun _ _ => rfl, Same.refl _⟩
  · have := copy_own (P := P) (W := W) (ty := ty) (sT := sT) (o := o) (dl := dl) (dc := dc) (sl := m) (sc := vc) (a := ⟨vb, vo, none⟩) (cs := vs.map Value.string) hO hu hs (by rw [List.length_map, h1]; simp only [Nat.min_def]; split <;> omega) (fun j v hj => by
      rw [Addr.add_lit]; exact Vs.cells h1 g3 g6 j v hj) (by rw [List.length_map]; omega) str_one
    rw [List.length_map, h1] at this
    exact this
theorem clear_own {q : Nat} {W : World} {b : Nat} {arr : Array Value} (hO : Own q W b arr) {t e ty : TypeId} {z : Value} (ht : P.underlying t = some (.slice e)) (hv : ∀ w, (zeroValue e).run P w = .ok z w) (hz : z.cells = #[z]) (h1 : z.oneCell' = true) {o n c : Nat} (hn : 0 < n) (ho : o + n ≤ arr.size) :
    ∃ w', (Builtin.clear_ #[t] ty #[.slice (some ⟨b, o, none⟩) n c]).run P W = .ok (.tuple #[]) w' ∧ Own q w' b (ovr arr o (List.replicate n z)) ∧ w'.heap.size = W.heap.size ∧ (∀ k, k ≠ b → w'.heap[k]? = W.heap[k]?) ∧ Same W w' := by
  refine ⟨_, run_clear_slice W t e ty z ht hv hz h1 b o n c hn (fun j hj => ?_) (fun j hj => hO.frozen (by omega)), setCells_own _ W o arr hO⟩
  rw [hO.has.cell, Array.getElem?_eq_getElem (by omega)]; rfl
theorem wp_clear_run (w : World) {o : Oper} {a : Act} {K : Act → World → Prop} {Q : Exit → Act → World → Prop} (d : Operand) (t : TypeId)
    (ho : o.op = .call { callee := .builtin .clear, args := #[d], argTypes := #[t] }) (v : Value) (hd : a.eval d = v) {v' : Value} {w' : World}
    (hr : (Builtin.clear_ #[t] o.type #[v]).run P w = .ok v' w') (h : K (a.put o.dst v') w') : o.wp P a w K Q := by
  unfold Oper.wp execOp
  simp only [ho, resolve, invoke, builtin, Sem.run_bind, Sem.run_pure, Result.andThen_ok, List.map_toArray, List.map_cons, List.map_nil, hd, hr]
  exact h
theorem wpList_clear_E (w : World) {ops : Array Oper} {rest : List Oper} {o : Oper} {a : Act} {Q : Exit → Act → World → Prop} (hgd : o.guard = none) (d : Operand) (t : TypeId)
    (ho : o.op = .call { callee := .builtin .clear, args := #[d], argTypes := #[t] }) (v : Value) (hd : a.eval d = v) {v' : Value} {R : World → Prop}
    (hr : ∃ w', (Builtin.clear_ #[t] o.type #[v]).run P w = .ok v' w' ∧ R w') (h : ∀ w', R w' → wpList P ops Q rest (a.put o.dst v') w') : wpList P ops Q (o :: rest) a w := by
  obtain ⟨w', h1, h2⟩ := hr
  exact wpList_plain hgd fun _ hK => wp_clear_run w d t ho v hd h1 (hK _ _ (h w' h2))
/-- strings at the end of a row's first elements, where there is room -/
theorem append_room_E {W : World} {q b : Nat} {arr : Array Value} (hO : Own q W b arr) {t ty e : TypeId} {i0 : TypeInfo} (ht : P.underlying t = some (.slice e)) (hi : P.info? e = some i0) (hs1 : i0.size = 1)
    {o c i m vc b' : Nat} {A : Option Addr} {vs : List ByteArray} (hV : Vs W A m vc vs b') (ha : o + c ≤ arr.size) (hg : i + m ≤ c) :
    ∃ v' w', (Builtin.append_ #[t, t] ty #[.slice (some ⟨b, o, none⟩) i c, .slice A m vc]).run P W = .ok v' w' ∧ v' = .slice (some ⟨b, o, none⟩) (i + m) c ∧ Own q w' b (ovr arr (o + i) (vs.map Value.string)) ∧ w'.heap.size = W.heap.size ∧ (∀ k, k ≠ b → w'.heap[k]? = W.heap[k]?) ∧ Same W w' := by
  have hsrc : Src P i0.size t (.slice A m vc) m (vs.map Value.string) W := by rw [hs1]; exact hV.src ht
  have hl : (vs.map Value.string).length = m := by rw [List.length_map]; exact hV.1
  have hrun := run_append_room_src (P := P) W t t ty e i0 ht hi b o i c _ m _ hsrc hg (fun j hj => by rw [hs1, hO.has.cell, Array.getElem?_eq_getElem (by omega)]; rfl) (fun j hj => by rw [hs1]; exact hO.frozen (by omega))
  rw [hs1, Nat.mul_one] at hrun
  exact ⟨_, _, hrun, rfl, setCells_own _ W _ arr hO⟩
/-- and where there is none -/
theorem append_grow_E {W : World} {q b : Nat} {arr : Array Value} (hO : Own q W b arr) {t ty e : TypeId} {i0 : TypeInfo} {z : Value} (ht : P.underlying t = some (.slice e)) (hi : P.info? e = some i0) (hz : i0.zero = some z) (hs1 : i0.size = 1) (hb16 : i0.bytes = 16)
    (hzc : z.cells.size = 1) {o c i m vc b' : Nat} {A : Option Addr} {vs : List ByteArray} (hV : Vs W A m vc vs b') (hic : i ≤ c) (ha : o + c ≤ arr.size) (hg : c < i + m) (hbig : (i + m) * 16 ≤ 140737488355328) :
    ∃ v' w', (Builtin.append_ #[t, t] ty #[.slice (some ⟨b, o, none⟩) i c, .slice A m vc]).run P W = .ok v' w' ∧
      ∃ G ROW, v' = .slice (some ⟨W.heap.size, 0, none⟩) (i + m) G ∧ i + m ≤ G ∧ Own 1 w' W.heap.size ROW ∧ G ≤ ROW.size ∧ (∀ j, j < i → ROW[j]? = arr[o + j]?) ∧ (∀ j, j < m → ROW[i + j]? = (vs.map Value.string)[j]?) ∧ w'.heap.size = W.heap.size + 1 ∧ (∀ j, j < W.heap.size → w'.heap[j]? = W.heap[j]?) ∧ Same W w' := by
  have hsrc : Src P i0.size t (.slice A m vc) m (vs.map Value.string) W := by rw [hs1]; exact hV.src ht
  have hvl : (vs.map Value.string).length = m := by rw [List.length_map]; exact hV.1
  have hold : (Builtin.firstCells i0.size i (.slice (some ⟨b, o, none⟩) i c)).run P W.drew = .ok (seg arr o i).toArray W.drew := by
    rw [hs1]
    exact run_firstCells_some W.drew 1 i ⟨b, o, none⟩ i c (seg arr o i) (by rw [seg_len (by omega)]; omega) (fun j v hj => by
      rw [Addr.add_lit]
      rw [seg_get] at hj
      split at hj
      · exact (hO.has.cell _).trans hj
      · cases hj)
  have hl : (seg arr o i).length = i := seg_len (by omega)
  refine ⟨_, _, run_append_grow_src W t t ty e i0 z ht hi hz (some ⟨b, o, none⟩) i c (seg arr o i) hold _ m _ hsrc (by omega) (by omega) (by rw [hb16]; exact growslice_fits hg hbig), _, _, rfl, grownCap_ge W _ _ _, alloc_own, ?_, fun j hj => ?_, fun j hj => ?_, alloc_size, fun j hj => alloc_lt j hj, ⟨rfl, rfl, rfl⟩⟩
  · have := grownCap_ge W (i + m) c e
    simp only [Builtin.zeroCells, Array.size_append, List.size_toArray, List.length_append, hl, hvl, hzc, Array.size_map, Array.size_range]
    omega
  · have h3 : j < (seg arr o i).length := by omega
    have h4 : (seg arr o i)[j]? = arr[o + j]? := by rw [seg_get, if_pos hj]
    rw [Array.getElem?_append_left (by simp [hl, hvl]; omega), ← h4, List.getElem?_toArray, List.getElem?_append_left h3]
  · rw [Array.getElem?_append_left (by simp [hl, hV.1]; omega), List.getElem?_toArray, List.getElem?_append_right (by omega), hl, Nat.add_sub_cancel_left]
theorem clear_zero {W : World} {t e ty : TypeId} (ht : P.underlying t = some (.slice e)) (A : Option Addr) (c : Nat) :
    ∃ w', (Builtin.clear_ #[t] ty #[.slice A 0 c]).run P W = .ok (.tuple #[]) w' ∧ w' = W := by
  cases A <;> exact ⟨W, by simp [Builtin.clear_, run_underlying ht], rfl⟩
/-- what is given: a row of its own, or none -/
def SRow (w : World) (v : Value) (xs : List ByteArray) (b : Nat) : Prop := (xs = [] ∧ ∃ A, v = .slice A 0 0) ∨ Row w v xs b
theorem map_get {xs : List ByteArray} {k : Nat} (h : k < xs.length) : (xs.map Value.string)[k]? = some (.string xs[k]) := by
  rw [List.getElem?_map, List.getElem?_eq_getElem h]; rfl
/-- a list that is owned, as a row -/
theorem srow_of {w : World} {S F : Fp} {d : Nat} {xs : List ByteArray} {v : Value} (h : rep w S (.list .str) (d + 1) xs [v] F) (hF : ∀ b, F b → b < w.heap.size) : ∃ b, SRow w v xs b ∧ ((∀ b', F b' ↔ b' = b) ∨ (∀ b', ¬ F b') ∧ b = w.heap.size) := by
  rcases h with ⟨⟨A, h1⟩, h2, h3⟩ | ⟨b, o, c, arr, G, h1, h2, h3, h4, h5⟩
  · obtain rfl : v = .slice A 0 0 := by simpa using h1
    exact ⟨w.heap.size, .inl ⟨h2, A, rfl⟩, .inr ⟨h3, rfl⟩⟩
  · obtain rfl : v = _ := (List.cons.inj h1).1
    obtain ⟨h, _⟩ | ⟨_, k1, k2, k3⟩ := h5
    · omega
    obtain ⟨G', q1, q2, q3⟩ := h4
    refine ⟨b, .inr ⟨o, c, arr, rfl, h2, by simpa [Ty.size] using h3, k1, fun k hk => ?_⟩, .inl fun b' => (k3 b').trans ⟨fun h => h.elim id fun h => ?_, .inl⟩⟩
    · have := (q1 k hk).1
      have e0 : (seg arr (o + k * 1) 1)[0]? = some (.string xs[k]) := by
        show (seg arr (o + k * Ty.str.size) Ty.str.size)[0]? = _
        rw [this]; rfl
      rw [seg_get, if_pos (by omega), Nat.mul_one, Nat.add_zero] at e0
      rw [e0, map_get hk]
    · obtain ⟨i, hi, hg⟩ := (q3 b').1 h
      exact absurd hg ((q1 i hi).2 b')
/-- and back -/
theorem rep_of_row {w : World} {S : Fp} {d b : Nat} {xs : List ByteArray} {v : Value} (h : Row w v xs b) : rep w S (.list .str) (d + 1) xs [v] (fun b' => b' = b) := by
  obtain ⟨o, c, arr, rfl, h1, h2, h3, h4⟩ := h
  refine .inr ⟨b, o, c, arr, fun _ => False, rfl, h1, by simpa [Ty.size] using h2, ⟨fun _ _ => False, fun k hk => ⟨?_, fun _ h => h⟩, fun _ _ _ _ _ h => h.elim, fun b => ⟨fun h => h.elim, fun ⟨_, _, h⟩ => h⟩⟩, .inr ⟨Nat.succ_pos _, h3, fun h => h, fun b' => ⟨.inl, fun h => h.elim id fun h => h.elim⟩⟩⟩
  have := h4 k hk
  rw [map_get hk] at this
  apply List.ext_getElem?
  intro p
  show (seg arr (o + k * 1) 1)[p]? = _
  rw [seg_get, Nat.mul_one]
  match p with
  | 0 => rw [if_pos (by omega), Nat.add_zero, this]; rfl
  | p + 1 => rw [if_neg (by omega)]; rfl
/-- a list that is lent, as what is put in -/
theorem vs_of {w : World} {S F : Fp} {vs : List ByteArray} {cs : List Value} (h : rep w S (.list .str) 0 vs cs F) {b : Nat} (hb : ¬ S b) : ∃ A vc, cs = [.slice A vs.length vc] ∧ Vs w A vs.length vc vs b := by
  rcases h with ⟨⟨A, h1⟩, h2, h3⟩ | ⟨b1, o, c, arr, G, h1, h2, h3, h4, h5⟩
  · subst h1
    obtain rfl : vs = [] := h2
    exact ⟨A, 0, rfl, rfl, .inl ⟨rfl, fun _ => rfl⟩⟩
  · subst h1
    obtain ⟨_, k1, k2, k3⟩ | ⟨h, _⟩ := h5
    · by_cases h0 : vs.length = 0
      · exact ⟨_, c, rfl, rfl, .inl ⟨h0, fun h => (nomatch h)⟩⟩
      · obtain ⟨G', q1, q2, q3⟩ := h4
        refine ⟨_, c, rfl, rfl, .inr ⟨b1, o, arr, rfl, fun e => hb (e ▸ k2), k1, ?_, by omega, fun k hk => ?_⟩⟩
        · have : o + c * 1 ≤ arr.size := h3
          omega
        · have := (q1 k hk).1
          have e0 : (seg arr (o + k * 1) 1)[0]? = some (.string vs[k]) := by
            show (seg arr (o + k * Ty.str.size) Ty.str.size)[0]? = _
            rw [this]; rfl
          rw [seg_get, if_pos (by omega), Nat.mul_one, Nat.add_zero] at e0
          rw [e0, map_get hk]
    · omega
theorem went_out {w w' : World} {S Fa : Fp} {b b' : Nat} {v' : Value} {ys : List ByteArray} (hO : Row w' v' ys b') (hs : Same w w') (hz : w.heap.size ≤ w'.heap.size) (hk : ∀ k, k < w.heap.size → k ≠ b → w'.heap[k]? = w.heap[k]?) (hb : b' = b ∨ w.heap.size ≤ b')
    (hF : (∀ k, Fa k ↔ k = b) ∨ (∀ k, ¬ Fa k) ∧ b = w.heap.size) (hdis : ∀ b, Fa b → ¬ S b) (hS : ∀ b, S b → b < w.heap.size) : Went w w' S (fun _ => False) Fa S (fun k => k = b') (fun _ => False) := by
  obtain ⟨o, c, arr, rfl, h1, h2, h3, h4⟩ := hO
  have hlt : b' < w'.heap.size := h3.has.lt
  have hin : Fa b' ∨ w.heap.size ≤ b' := by
    rcases hb with rfl | hb
    · rcases hF with hF | ⟨_, hF⟩
      · exact .inl ((hF _).2 rfl)
      · exact .inr (by omega)
    · exact .inr hb
  exact { hw := fun k hk1 hk2 => hk k hk1 fun e => by
            rcases hF with hF | ⟨_, hF⟩
            · exact hk2 ((hF k).2 e)
            · omega
          hsz := hz
          hsame := hs
          h1 := fun b h => h.elim (fun h => h) fun h => h.elim
          h2 := fun b h => .inl h
          h3 := fun b h => Nat.lt_of_lt_of_le (hS b h) hz
          h4 := fun k h => h.elim (fun h => by
            subst h
            refine ⟨hin, fun hs => ?_, hlt⟩
            rcases hin with h | h
            · exact hdis _ h hs
            · have := hS _ hs; omega) fun h => h.elim
          h5 := fun b _ h => h }
/-- slices.Insert at strings -/
def insOk (xs : List ByteArray) (i : Int) (vs : List ByteArray) : Bool := decide (0 ≤ i) && (decide (i ≤ xs.length) && (decide (0 < vs.length) && decide (xs.length + vs.length ≤ 8796093022208)))
def ins1 (xs : List ByteArray) (i : Int) (vs : List ByteArray) : Option (List ByteArray) := bif insOk xs i vs then some (xs.take i.toNat ++ vs ++ xs.drop i.toNat) else none
abbrev insSm : Abs.Sum := ⟨.cons (.own 5 .str) (.cons (.val (.int .i64)) (.cons (.val (.list .str)) .nil)), [(9, .list .str)], fun _ x => ins1 x.1 x.2.1 x.2.2⟩
theorem ins_keeps {f : Nat} (h : ∀ (w : World) (v : Value) (xs vs : List ByteArray) (b i m vc : Nat) (A : Option Addr), SRow w v xs b → Vs w A m vc vs b → 0 < m → i ≤ xs.length → (xs.length + m) * 16 ≤ 140737488355328 →
    Calls P f #[v, .int .i64 i, .slice A m vc] w fun e w' => ∃ v', e = .returned v' ∧ Out w w' b v' (xs.take i ++ vs ++ xs.drop i)) : Keeps P f insSm := by
  rintro n w args ⟨xs, i, vs⟩ y S Fa hy ha hdis hS hFa hgl
  simp only [insSm, ins1] at hy
  cases hr : insOk xs i vs with
  | false => rw [hr] at hy; cases hy
  | true =>
    rw [hr] at hy
    simp only [cond_true] at hy
    cases hy
    simp only [insOk, Bool.and_eq_true, decide_eq_true_eq] at hr
    obtain ⟨r1, r2, r3, r4⟩ := hr
    simp only [ArgL, Arg] at ha
    obtain ⟨u, us', F1, F2, rfl, h1, ⟨u2, us2, F3, F4, rfl, ⟨⟨cs, k2, rfl⟩, k3⟩, ⟨u3, us3, F5, F6, rfl, ⟨⟨cs', k4, rfl⟩, k5⟩, ⟨rfl, k6⟩, k7, k8⟩, k9, k10⟩, k11, k12⟩ := ha
    have hF2 : ∀ b, ¬ F2 b := fun b hb => ((k10 b).1 hb).elim (k3 b) fun h => ((k8 b).1 h).elim (k5 b) (k6 b)
    have hFe : ∀ b, Fa b ↔ F1 b := fun b => (k12 b).trans ⟨fun h => h.elim id fun h => absurd h (hF2 b), .inl⟩
    have e1 : cs = [.int .i64 i] := k2.1
    subst e1
    obtain ⟨b, s1, s2⟩ := srow_of (d := 5) (xs := xs) (v := u) h1 fun b hb => hFa b ((hFe b).2 hb)
    have hSb : ¬ S b := by
      rcases s2 with s2 | ⟨_, s2⟩
      · exact hdis b ((hFe b).2 ((s2 b).2 rfl))
      · exact fun hs => by have := hS b hs; omega
    obtain ⟨A, vc, rfl, hV⟩ := vs_of (vs := vs) k4 hSb
    obtain ⟨i', rfl⟩ : ∃ i' : Nat, i = (i' : Int) := Int.eq_ofNat_of_zero_le r1
    refine Calls.mono (h w u xs vs b i' vs.length vc A s1 hV r3 (by omega) (by omega)) ?_
    rintro e w' ⟨v', rfl, b', q1, q2, q3, q4, q5⟩
    refine ⟨[v'], S, fun k => k = b', fun _ => False, rfl, went_out q1 q2 q3 q4 q5 (s2.imp (fun s2 k => (hFe k).trans (s2 k)) fun s2 => ⟨fun k hk => s2.1 k ((hFe k).1 hk), s2.2⟩) hdis hS, ?_, ?_⟩
    · show ResL w' S [(9, .list .str)] (DL.left (b := []) ((xs.take i' : List ByteArray) ++ (show List ByteArray from vs) ++ (xs.drop i' : List ByteArray))) [v'] _
      simp only [ResL]
      exact ⟨[v'], [], fun k => k = b', fun _ => False, rfl, rep_of_row q1, ⟨rfl, fun _ h => h⟩, fun _ _ h => h, fun b => ⟨.inl, fun h => h.elim (fun h => h) fun h => h.elim⟩⟩
    · simp only [ArgL, Arg, Par.outTop]
      exact ⟨_, _, fun _ => False, fun _ => False, rfl, fun _ h => h, ⟨_, _, fun _ => False, fun _ => False, rfl, fun _ h => h, ⟨_, _, fun _ => False, fun _ => False, rfl, fun _ h => h, ⟨rfl, fun _ h => h⟩, fun _ _ h => h, fun b => ⟨.inl, fun h => h.elim (fun h => h) fun h => h⟩⟩, fun _ _ h => h, fun b => ⟨.inl, fun h => h.elim (fun h => h) fun h => h⟩⟩, fun _ _ h => h, fun b => ⟨.inl, fun h => h.elim (fun h => h) fun h => h⟩⟩
/-- slices.Replace at strings -/
def repOk (xs : List ByteArray) (i j : Int) (vs : List ByteArray) : Bool := decide (0 ≤ i) && (decide (i ≤ j) && (decide (j ≤ xs.length) && ((decide (i < j) || decide (0 < vs.length)) && decide (xs.length + vs.length ≤ 8796093022208))))
def rep1 (xs : List ByteArray) (i j : Int) (vs : List ByteArray) : Option (List ByteArray) := bif repOk xs i j vs then some (xs.take i.toNat ++ vs ++ xs.drop j.toNat) else none
abbrev repSm : Abs.Sum := ⟨.cons (.own 5 .str) (.cons (.val (.int .i64)) (.cons (.val (.int .i64)) (.cons (.val (.list .str)) .nil))), [(9, .list .str)], fun _ x => rep1 x.1 x.2.1 x.2.2.1 x.2.2.2⟩
theorem rep_keeps {f : Nat} (h : ∀ (w : World) (v : Value) (xs vs : List ByteArray) (b i j m vc : Nat) (A : Option Addr), SRow w v xs b → Vs w A m vc vs b → i ≤ j → (i = j → 0 < m) → j ≤ xs.length → (xs.length + m) * 16 ≤ 140737488355328 →
    Calls P f #[v, .int .i64 i, .int .i64 j, .slice A m vc] w fun e w' => ∃ v', e = .returned v' ∧ Out w w' b v' (xs.take i ++ vs ++ xs.drop j)) : Keeps P f repSm := by
  rintro n w args ⟨xs, i, j, vs⟩ y S Fa hy ha hdis hS hFa hgl
  simp only [repSm, rep1] at hy
  cases hr : repOk xs i j vs with
  | false => rw [hr] at hy; cases hy
  | true =>
    rw [hr] at hy
    simp only [cond_true] at hy
    cases hy
    simp only [repOk, Bool.and_eq_true, Bool.or_eq_true, decide_eq_true_eq] at hr
    obtain ⟨r1, r2, r3, r4, r5⟩ := hr
    simp only [ArgL, Arg] at ha
    obtain ⟨u, us', F1, F2, rfl, h1, ⟨u2, us2, F3, F4, rfl, ⟨⟨cs, k2, rfl⟩, k3⟩, ⟨u4, us4, F7, F8, rfl, ⟨⟨cs4, p2, rfl⟩, p3⟩, ⟨u3, us3, F5, F6, rfl, ⟨⟨cs', k4, rfl⟩, k5⟩, ⟨rfl, k6⟩, k7, k8⟩, p9, p10⟩, k9, k10⟩, k11, k12⟩ := ha
    have hF2 : ∀ b, ¬ F2 b := fun b hb => ((k10 b).1 hb).elim (k3 b) fun h => ((p10 b).1 h).elim (p3 b) fun h => ((k8 b).1 h).elim (k5 b) (k6 b)
    have hFe : ∀ b, Fa b ↔ F1 b := fun b => (k12 b).trans ⟨fun h => h.elim id fun h => absurd h (hF2 b), .inl⟩
    have e1 : cs = [.int .i64 i] := k2.1
    have e2 : cs4 = [.int .i64 j] := p2.1
    subst e1 e2
    obtain ⟨b, s1, s2⟩ := srow_of (d := 5) (xs := xs) (v := u) h1 fun b hb => hFa b ((hFe b).2 hb)
    have hSb : ¬ S b := by
      rcases s2 with s2 | ⟨_, s2⟩
      · exact hdis b ((hFe b).2 ((s2 b).2 rfl))
      · exact fun hs => by have := hS b hs; omega
    obtain ⟨A, vc, rfl, hV⟩ := vs_of (vs := vs) k4 hSb
    obtain ⟨i', rfl⟩ : ∃ i' : Nat, i = (i' : Int) := Int.eq_ofNat_of_zero_le r1
    obtain ⟨j', rfl⟩ : ∃ j' : Nat, j = (j' : Int) := Int.eq_ofNat_of_zero_le (Int.le_trans r1 r2)
    refine Calls.mono (h w u xs vs b i' j' vs.length vc A s1 hV (by omega) (fun he => r4.elim (fun h => by omega) id) (by omega) (by omega)) ?_
    rintro e w' ⟨v', rfl, b', q1, q2, q3, q4, q5⟩
    refine ⟨[v'], S, fun k => k = b', fun _ => False, rfl, went_out q1 q2 q3 q4 q5 (s2.imp (fun s2 k => (hFe k).trans (s2 k)) fun s2 => ⟨fun k hk => s2.1 k ((hFe k).1 hk), s2.2⟩) hdis hS, ?_, ?_⟩
    · show ResL w' S [(9, .list .str)] (DL.left (b := []) ((xs.take i' : List ByteArray) ++ (show List ByteArray from vs) ++ (xs.drop j' : List ByteArray))) [v'] _
      simp only [ResL]
      exact ⟨[v'], [], fun k => k = b', fun _ => False, rfl, rep_of_row q1, ⟨rfl, fun _ h => h⟩, fun _ _ h => h, fun b => ⟨.inl, fun h => h.elim (fun h => h) fun h => h.elim⟩⟩
    · simp only [ArgL, Arg, Par.outTop]
      exact ⟨_, _, fun _ => False, fun _ => False, rfl, fun _ h => h, ⟨_, _, fun _ => False, fun _ => False, rfl, fun _ h => h, ⟨_, _, fun _ => False, fun _ => False, rfl, fun _ h => h, ⟨_, _, fun _ => False, fun _ => False, rfl, fun _ h => h, ⟨rfl, fun _ h => h⟩, fun _ _ h => h, fun b => ⟨.inl, fun h => h.elim (fun h => h) fun h => h⟩⟩, fun _ _ h => h, fun b => ⟨.inl, fun h => h.elim (fun h => h) fun h => h⟩⟩, fun _ _ h => h, fun b => ⟨.inl, fun h => h.elim (fun h => h) fun h => h⟩⟩, fun _ _ h => h, fun b => ⟨.inl, fun h => h.elim (fun h => h) fun h => h⟩⟩
/-! #### rows whose elements are lent -/
structure Wrap (p : Prop) : Prop where
  h : p
def NSt (w : World) (S : Fp) (e : Ty) (xs : List e.den) (v : Value) (w1 : World) : Prop :=
  ∃ F, rep w1 S (.list e) 1 xs [v] F ∧ (∀ b, F b → w.heap.size ≤ b ∧ b < w1.heap.size) ∧ w.heap.size ≤ w1.heap.size ∧ (∀ k, k < w.heap.size → w1.heap[k]? = w.heap[k]?) ∧ Same w w1
theorem nst_append {w w1 : World} {S : Fp} {e : Ty} {xs ys : List e.den} {v u : Value} {t te : TypeId} (hu : P.underlying t = some (.slice te)) (ht : TyOk P te e) (hS : ∀ b, S b → b < w.heap.size) (h : NSt w S e xs v w1) (hy : rep w S (.list e) 0 ys [u] (fun _ => False)) (hroom : xs.length + ys.length ≤ room (bytesOf P t)) (ty : TypeId) :
    ∃ v' w', (Builtin.append_ #[t, t] ty #[v, u]).run P w1 = .ok v' w' ∧ NSt w S e (xs ++ ys) v' w' := by
  obtain ⟨F, hr, hF, hsz, hfr, hsm⟩ := h
  have hy1 : rep w1 S (.list e) 0 ys [u] (fun _ => False) := rep_frame (fun _ h => h) (fun b hb => hfr b (hS b hb)) (fun _ h => h.elim) hy
  have hx : (xs.length = 0 ∧ ∃ A, v = .slice A 0 0) ∨ ∃ b o c arr, v = .slice (some ⟨b, o, none⟩) xs.length c ∧ Own e.mk w1 b arr ∧ xs.length ≤ c ∧ o + c * e.size ≤ arr.size := by
    rcases hr with ⟨⟨A, h1⟩, h2, _⟩ | ⟨b, o, c, arr, G, h1, h2, h3, _, h5⟩
    · exact .inl ⟨by rw [h2]; rfl, A, (List.cons.inj h1).1⟩
    · obtain ⟨h, _⟩ | ⟨_, k1, _⟩ := h5
      · omega
      · exact .inr ⟨b, o, c, arr, (List.cons.inj h1).1, k1, h2, h3⟩
  have hu2 : (ys.length = 0 ∧ ∃ A, u = .slice A 0 0) ∨ ∃ b o c arr, u = .slice (some ⟨b, o, none⟩) ys.length c ∧ Has w1 b arr ∧ o + ys.length * e.size ≤ arr.size ∧ ∀ q ∈ seg arr o (ys.length * e.size), q.oneCell' = true := by
    rcases hy1 with ⟨⟨A, h1⟩, h2, _⟩ | ⟨b, o, c, arr, G, h1, h2, h3, h4, h5⟩
    · exact .inl ⟨by rw [h2]; rfl, A, (List.cons.inj h1).1⟩
    · obtain ⟨_, k1, k2, k3⟩ | ⟨h, _⟩ := h5
      · have : ys.length * e.size ≤ c * e.size := Nat.mul_le_mul_right _ h2
        obtain ⟨G', q1, _⟩ := h4
        exact .inr ⟨b, o, c, arr, (List.cons.inj h1).1, k1, by omega, rows_one q1⟩
      · omega
  obtain ⟨v', w', g1, g2, g3, g4, g5⟩ := append_run (P := P) (ty := ty) hu ht hx hu2 hroom
  have hnew : ∀ k, k < w.heap.size → w'.heap[k]? = w.heap[k]? := fun k hk => (g4 k (by omega) fun o c n hc he => by
    rcases hr with ⟨⟨A, h1⟩, h2, _⟩ | ⟨b, o2, c2, arr, G, h1, h2, h3, _, h5⟩
    · rw [(List.cons.inj h1).1] at he
      simp only [Value.slice.injEq] at he
      obtain ⟨_, _, h9⟩ := he
      omega
    · obtain ⟨h, _⟩ | ⟨_, k1, _, k3⟩ := h5
      · omega
      · rw [(List.cons.inj h1).1] at he
        simp only [Value.slice.injEq, Option.some.injEq, Addr.mk.injEq] at he
        have := (hF b ((k3 b).2 (.inl rfl))).1
        have e0 := he.1.1
        omega).trans (hfr k hk)
  refine ⟨v', w', g1, ?_⟩
  rcases g5 with ⟨g5, ⟨A, rfl⟩, _⟩ | ⟨b', o', c', arr', rfl, k1, k2, k3, k4, k5, k6⟩
  · have hx0 : xs = [] := List.length_eq_zero_iff.1 (by omega)
    have hy0 : ys = [] := List.length_eq_zero_iff.1 (by omega)
    subst hx0 hy0
    exact ⟨fun _ => False, .inl ⟨⟨A, rfl⟩, rfl, fun _ h => h⟩, fun _ h => h.elim, by omega, hnew, hsm.trans g2⟩
  · have hb' : w.heap.size ≤ b' := by
      rcases k4 with ⟨o, c, n, hc, he⟩ | k4
      · rcases hr with ⟨⟨A, h1⟩, h2, _⟩ | ⟨b, o2, c2, arr, G, h1, h2, h3, _, h5⟩
        · rw [(List.cons.inj h1).1] at he
          simp only [Value.slice.injEq] at he
          obtain ⟨_, _, h9⟩ := he
          omega
        · obtain ⟨h, _⟩ | ⟨_, q1, _, q3⟩ := h5
          · omega
          · rw [(List.cons.inj h1).1] at he
            simp only [Value.slice.injEq, Option.some.injEq, Addr.mk.injEq] at he
            have := (hF b ((q3 b).2 (.inl rfl))).1
            have e0 := he.1.1
            omega
      · omega
    have keep : ∀ {x : e.den} {cs : List Value}, rep w1 S e 0 x cs (fun _ => False) → rep w' S e 0 x cs (fun _ => False) := fun h =>
      rep_frame (fun _ h => h) (fun b hb => (hnew b (hS b hb)).trans (hfr b (hS b hb)).symm) (fun _ h => h.elim) h
    have hel : ∀ i (hi : i < (xs ++ ys).length), rep w' S e 0 (xs ++ ys)[i] (seg arr' (o' + i * e.size) e.size) (fun _ => False) := by
      intro i hi
      rw [List.length_append] at hi
      by_cases hix : i < xs.length
      · rw [List.getElem_append_left hix]
        rcases hr with ⟨⟨A, h1⟩, h2, _⟩ | ⟨b, o2, c2, arr, G, h1, h2, h3, h4, h5⟩
        · rw [h2] at hix; simp at hix
        · obtain ⟨h, _⟩ | ⟨_, q1, _, q3⟩ := h5
          · omega
          · rw [k5 b o2 c2 arr (List.cons.inj h1).1 q1 i hix]
            obtain ⟨G', r1, _⟩ := h4
            have h0 := r1 i hix
            exact keep (rep_iff h0 fun b => ⟨fun h => h.elim, fun h => rep_none (.inl rfl) h0 b h⟩)
      · rw [List.getElem_append_right (by omega)]
        rcases hy1 with ⟨⟨A, h1⟩, h2, _⟩ | ⟨b, o2, c2, arr, G, h1, h2, h3, h4, h5⟩
        · rw [h2] at hi; simp at hi; omega
        · obtain ⟨_, q1, q2, q3⟩ | ⟨h, _⟩ := h5
          · have := k6 b o2 c2 arr (List.cons.inj h1).1 q1 (i - xs.length) (by omega)
            rw [show xs.length + (i - xs.length) = i by omega] at this
            rw [this]
            obtain ⟨G', r1, _⟩ := h4
            have h0 := r1 (i - xs.length) (by omega)
            exact keep (rep_iff h0 fun b => ⟨fun h => h.elim, fun h => rep_none (.inl rfl) h0 b h⟩)
          · omega
    refine ⟨fun b => b = b', .inr ⟨b', o', c', arr', fun _ => False, by rw [List.length_append], by rw [List.length_append]; exact k2, k3, ⟨fun _ _ => False, hel, fun _ _ _ _ _ h => h.elim, fun b => ⟨fun h => h.elim, fun ⟨_, _, h⟩ => h⟩⟩, .inr ⟨Nat.one_pos, k1, fun h => h, fun b => ⟨.inl, fun h => h.elim id fun h => h.elim⟩⟩⟩, fun b hb => ?_, by omega, hnew, hsm.trans g2⟩
    subst hb
    exact ⟨hb', k1.has.lt⟩
end Go.Abs
set_option linter.unusedVariables false
set_option linter.unusedSimpArgs false
/-! ### slices.Sort and slices.Compact at strings, in the evaluator's words -/
namespace Go.Abs
open Go Go.Proofs Go.Shelf Go.RowKit Go.Lib Go.Sort
variable {P : Program}

theorem putRow_own {α : Type} [Inhabited α] {enc : α → Value} {q : Nat} {w : World} {b off : Nat} {arr : Array Value} (h : Own q w b arr) (d : Array α) :
    Own q (putRow enc w b off d) b (putCells enc off d arr) ∧ (putRow enc w b off d).heap.size = w.heap.size ∧ (∀ k, k ≠ b → (putRow enc w b off d).heap[k]? = w.heap[k]?) ∧ Same w (putRow enc w b off d) := by
  obtain ⟨e, lo, hi, h1, h2⟩ := h
  refine ⟨⟨e, lo, hi, ?_, ?_⟩, ?_, fun k hk => ?_, ⟨rfl, rfl, rfl⟩⟩
  · simp [putRow, mapBlock, Array.getElem?_modify, h1, onCells]
  · simpa [putCells] using h2
  · simp [putRow, mapBlock]
  · simp [putRow, mapBlock, Array.getElem?_modify, Ne.symm hk]
def strOfL (l : List UInt8) : ByteArray := ⟨l.toArray⟩
def listOf (s : ByteArray) : List UInt8 := s.data.toList
theorem strOf_list (s : ByteArray) : strOfL (listOf s) = s := by
  unfold strOfL listOf
  rw [Array.toArray_toList]
theorem list_strOf (l : List UInt8) : listOf (strOfL l) = l := rfl
theorem row_holds {w : World} {b o : Nat} {arr : Array Value} {xs : List ByteArray} (hO : Own 1 w b arr) (hs : o + xs.length ≤ arr.size) (hx : ∀ k, k < xs.length → arr[o + k]? = (xs.map Value.string)[k]?) : Holds encStr w b o (xs.map listOf).toArray := by
  intro j hj
  simp only [List.size_toArray, List.length_map] at hj
  refine ⟨?_, hO.frozen (by omega)⟩
  rw [hO.has.cell, hx j hj, map_get hj]
  have : ((xs.map listOf).toArray[j]!) = listOf xs[j] := by
    rw [getElem!_pos _ j (by simpa using hj)]
    simp
  rw [this]
  exact congrArg (fun z => some (Value.string z)) (strOf_list _).symm
theorem put_cells {o : Nat} {arr : Array Value} (zs : List (List UInt8)) (hs : o + zs.length ≤ arr.size) : ∀ k, k < zs.length → (putCells encStr o zs.toArray arr)[o + k]? = ((zs.map strOfL).map Value.string)[k]? := by
  intro k hk
  unfold putCells
  rw [Array.getElem?_mapIdx, Array.getElem?_eq_getElem (by omega), Option.map_some, if_pos ⟨by omega, by simpa using hk⟩, show o + k - o = k by omega]
  rw [getElem!_pos _ k (by simpa using hk)]
  simp [List.getElem?_eq_getElem hk, strOfL]
theorem ahead_own {q : Nat} {w : World} {b n : Nat} {c : Array Value} (h : Own q w b c) : Own q (Sort.ahead w n) b c := h
theorem grow_own {q : Nat} {w : World} {b : Nat} {c : Array Value} {os : Array Obj} (h : Own q w b c) : Own q (grow w os) b c := by
  have hl := h.has.lt
  refine h.of_eq ?_
  show (w.heap ++ os)[b]? = _
  rw [Array.getElem?_append_left hl]
/-- a list that is owned, as a row, and what it owns -/
theorem srow2 {w : World} {S F : Fp} {d : Nat} {xs : List ByteArray} {v : Value} (h : rep w S (.list .str) (d + 1) xs [v] F) (hF : ∀ b, F b → b < w.heap.size) :
    (xs = [] ∧ (∃ A, v = .slice A 0 0) ∧ ∀ b, ¬ F b) ∨ ∃ b, Row w v xs b ∧ ∀ b', F b' ↔ b' = b := by
  have h' := h
  rcases h with ⟨⟨A, h1⟩, h2, h3⟩ | ⟨b, o, c, arr, G, h1, h2, h3, h4, h5⟩
  · exact .inl ⟨h2, ⟨A, by simpa using h1⟩, h3⟩
  · obtain ⟨b2, s1, s2⟩ := srow_of h' hF
    obtain ⟨h, _⟩ | ⟨_, q1, q2, q3⟩ := h5
    · omega
    obtain rfl : v = _ := (List.cons.inj h1).1
    have hb : F b := (q3 b).2 (.inl rfl)
    rcases s2 with s2 | ⟨s2, _⟩
    · obtain rfl : b = b2 := (s2 b).1 hb
      rcases s1 with ⟨_, A, hA⟩ | s1
      · refine .inr ⟨b, ?_, s2⟩
        obtain ⟨G', r1, _⟩ := h4
        exact ⟨o, c, arr, rfl, h2, by simpa [Ty.size] using h3, q1, fun k hk => by
          have := (r1 k hk).1
          have e0 : (seg arr (o + k * 1) 1)[0]? = some (.string xs[k]) := by
            show (seg arr (o + k * Ty.str.size) Ty.str.size)[0]? = _
            rw [this]; rfl
          rw [seg_get, if_pos (by omega), Nat.mul_one, Nat.add_zero] at e0
          rw [e0, map_get hk]⟩
      · exact .inr ⟨b, s1, s2⟩
    · exact absurd hb (s2 b)
/-- slices.Sort at strings -/
def sortB (xs : List ByteArray) : List ByteArray := ((xs.map listOf).mergeSort fun x y => decide (x ≤ y)).map strOfL
theorem sortB_len (xs : List ByteArray) : (sortB xs).length = xs.length := by simp [sortB]
def sort1 (xs : List ByteArray) : Option (List ByteArray) := bif decide (xs.length ≤ 1099511627776) then some (sortB xs) else none
abbrev sortSm : Abs.Sum := ⟨.cons (.io 9 .str) .nil, [], fun _ x => sort1 x⟩
theorem sort_keeps {f : Nat} (h : ∀ (blk off cap : Nat) (ss : List (List UInt8)) (w : World), Holds encStr w blk off ss.toArray → blk < w.heap.size → ss.length < 4611686018427387904 →
      Calls P f #[.slice (some ⟨blk, off, none⟩) ss.length cap] w fun e w' => e = .returned (.tuple #[]) ∧ ∃ n os, w' = grow (putRow encStr (Sort.ahead w n) blk off (ss.mergeSort fun x y => decide (x ≤ y)).toArray) os)
    (h0 : ∀ (p : Option Addr) (cap : Nat) (w : World), Calls P f #[.slice p 0 cap] w fun e w' => e = .returned (.tuple #[]) ∧ w' = w) : Keeps P f sortSm := by
  intro n w args (x : List ByteArray) y S Fa hy ha hdis hS hFa hgl
  simp only [sortSm, sort1] at hy
  cases hr : decide ((x : List ByteArray).length ≤ 1099511627776) with
  | false => rw [hr] at hy; cases hy
  | true =>
    rw [hr] at hy
    simp only [cond_true] at hy
    cases hy
    have hlen := of_decide_eq_true hr
    simp only [ArgL, Arg] at ha
    obtain ⟨u, us', F1, F2, rfl, k1, ⟨rfl, k4⟩, k5, k6⟩ := ha
    have hFe : ∀ b, Fa b ↔ F1 b := fun b => (k6 b).trans ⟨fun h => h.elim id fun h => absurd h (k4 b), .inl⟩
    have fin : ∀ (w' : World), rep w' S (.list .str) 10 (sortB x) [u] F1 → Same w w' → w.heap.size ≤ w'.heap.size → (∀ k, k < w.heap.size → ¬ Fa k → w'.heap[k]? = w.heap[k]?) →
        ∃ us S' Fr Fo, Ending.returned (.tuple #[]) = .returned (retV us) ∧ Went w w' S (fun _ => False) Fa S' Fr Fo ∧ ResL w' S' [] (DL.left (b := [.list .str]) (sortB x)) us Fr ∧ ArgL w' S' (Par.cons (.io 9 .str) .nil) (DL.right (a := []) (sortB x)) [u] Fo := by
      intro w' hrep hsm hsz hfr
      refine ⟨[], S, fun _ => False, F1, rfl, { hw := fun b hb hn => hfr b hb hn, hsz := hsz, hsame := hsm, h1 := fun b h => h.elim (fun h => h) fun h => h.elim, h2 := fun b h => .inl h, h3 := fun b h => Nat.lt_of_lt_of_le (hS b h) hsz, h4 := fun b h => h.elim (fun h => h.elim) fun h => ⟨.inl ((hFe b).2 h), hdis b ((hFe b).2 h), Nat.lt_of_lt_of_le (hFa b ((hFe b).2 h)) hsz⟩, h5 := fun b h => h.elim }, ?_, ?_⟩
      · simp only [ResL]
        exact ⟨trivial, fun _ h => h⟩
      · simp only [ArgL, Arg]
        exact ⟨u, [], F1, fun _ => False, rfl, hrep, ⟨rfl, fun _ h => h⟩, fun _ _ h => h, fun b => ⟨.inl, fun h => h.elim (fun h => h) fun h => h.elim⟩⟩
    rcases srow2 (d := 9) (xs := x) (v := u) k1 fun b hb => hFa b ((hFe b).2 hb) with ⟨hx, ⟨A, rfl⟩, hno⟩ | ⟨b, ⟨o, c, arr, rfl, r1, r2, r3, r4⟩, hFb⟩
    · refine Calls.mono (h0 A 0 w) ?_
      rintro e w' ⟨rfl, rfl⟩
      have hx' : x = ([] : List ByteArray) := hx
      refine fin _ (.inl ⟨⟨A, rfl⟩, ?_, ?_⟩) (Same.refl _) (Nat.le_refl _) fun _ _ _ => rfl
      · rw [hx']; simp [sortB]
      · exact hno
    · have hH := row_holds r3 (show o + (x : List ByteArray).length ≤ arr.size by omega) r4
      have hcall := h b o c ((x : List ByteArray).map listOf) w hH r3.has.lt (by have e : ((x : List ByteArray).map listOf).length = (x : List ByteArray).length := List.length_map _; omega)
      have hml : ((x : List ByteArray).map listOf).length = (x : List ByteArray).length := List.length_map _
      rw [hml] at hcall
      refine Calls.mono hcall ?_
      rintro e w' ⟨rfl, n', os, rfl⟩
      obtain ⟨p1, p2, p3, p4⟩ := putRow_own (enc := encStr) (off := o) (ahead_own (n := n') r3) (((x : List ByteArray).map listOf).mergeSort fun x y => decide (x ≤ y)).toArray
      have hsz : (((x : List ByteArray).map listOf).mergeSort fun x y => decide (x ≤ y)).length = (x : List ByteArray).length := by rw [List.length_mergeSort]; exact hml
      refine fin _ ?_ (Same.trans (⟨rfl, rfl, rfl⟩ : Same w (Sort.ahead w n')) (Same.trans p4 ⟨rfl, rfl, rfl⟩)) ?_ fun k hk hn => ?_
      · have hrow : Row (grow (putRow encStr (Sort.ahead w n') b o (((x : List ByteArray).map listOf).mergeSort fun x y => decide (x ≤ y)).toArray) os) (.slice (some ⟨b, o, none⟩) (x : List ByteArray).length c) (sortB x) b := by
          refine ⟨o, c, _, congrArg (fun z => Value.slice (some ⟨b, o, none⟩) z c) (sortB_len x).symm, (sortB_len x).symm ▸ r1, ?_, grow_own p1, ?_⟩
          · simpa [putCells] using r2
          · have := put_cells (o := o) (arr := arr) (((x : List ByteArray).map listOf).mergeSort fun x y => decide (x ≤ y)) (by rw [hsz]; omega)
            intro k hk
            have hk : k < (x : List ByteArray).length := sortB_len x ▸ hk
            exact this k (by rw [hsz]; exact hk)
        exact rep_iff (rep_of_row (d := 9) hrow) hFb
      · show w.heap.size ≤ (_ ++ os).size
        rw [Array.size_append]
        have : (putRow encStr (Sort.ahead w n') b o (((x : List ByteArray).map listOf).mergeSort fun x y => decide (x ≤ y)).toArray).heap.size = w.heap.size := p2
        omega
      · have hkb : k ≠ b := fun e => hn ((hFe k).2 ((hFb k).2 e))
        have e1 := p3 k hkb
        show (_ ++ os)[k]? = _
        rw [Array.getElem?_append_left (by rw [p2]; exact hk)]
        exact e1
/-- slices.Compact at strings -/
def compactB (xs : List ByteArray) : List ByteArray := (Lib.compact (xs.map listOf)).map strOfL
def compact1 (xs : List ByteArray) : Option (List ByteArray) := bif decide (xs.length ≤ 1099511627776) then some (compactB xs) else none
abbrev compactSm : Abs.Sum := ⟨.cons (.own 5 .str) .nil, [(9, .list .str)], fun _ x => compact1 x⟩
theorem compact_le {α : Type} [Inhabited α] [DecidableEq α] (zs : List α) : (Lib.compact zs).length ≤ zs.length := by
  unfold Lib.compact Lib.compactUpTo
  rw [List.length_map]
  exact Nat.le_trans (List.length_filter_le _ _) (by rw [List.length_range]; exact Nat.le_refl _)
theorem compact_keeps {f : Nat} (h : ∀ (blk off cap : Nat) (zs : List (List UInt8)) (w : World), Holds encStr w blk off zs.toArray → zs.length ≤ 9223372036854775807 → zs.length ≤ cap →
      Calls P f #[.slice (some ⟨blk, off, none⟩) zs.length cap] w fun e w' => e = .returned (.slice (some ⟨blk, off, none⟩) (Lib.compact zs).length cap) ∧ ∃ q, w' = putRow encStr (Sort.ahead w q) blk off (Lib.compact zs ++ List.replicate (zs.length - (Lib.compact zs).length) []).toArray)
    (h0 : ∀ (p : Option Addr) (cap : Nat) (w : World), Calls P f #[.slice p 0 cap] w fun e w' => e = .returned (.slice p 0 cap) ∧ w' = w) : Keeps P f compactSm := by
  intro n w args (x : List ByteArray) y S Fa hy ha hdis hS hFa hgl
  simp only [compactSm, compact1] at hy
  cases hr : decide ((x : List ByteArray).length ≤ 1099511627776) with
  | false => rw [hr] at hy; cases hy
  | true =>
    rw [hr] at hy
    simp only [cond_true] at hy
    cases hy
    have hlen := of_decide_eq_true hr
    simp only [ArgL, Arg] at ha
    obtain ⟨u, us', F1, F2, rfl, k1, ⟨rfl, k4⟩, k5, k6⟩ := ha
    have hFe : ∀ b, Fa b ↔ F1 b := fun b => (k6 b).trans ⟨fun h => h.elim id fun h => absurd h (k4 b), .inl⟩
    have fin : ∀ (w' : World) (v' : Value), rep w' S (.list .str) 9 (compactB x) [v'] F1 → Same w w' → w.heap.size ≤ w'.heap.size → (∀ k, k < w.heap.size → ¬ Fa k → w'.heap[k]? = w.heap[k]?) →
        ∃ us S' Fr Fo, Ending.returned v' = .returned (retV us) ∧ Went w w' S (fun _ => False) Fa S' Fr Fo ∧ ResL w' S' [(9, .list .str)] (DL.left (b := []) (compactB x)) us Fr ∧ ArgL w' S' (Par.cons .skip .nil) () [u] Fo := by
      intro w' v' hrep hsm hsz hfr
      refine ⟨[v'], S, F1, fun _ => False, rfl, { hw := fun b hb hn => hfr b hb hn, hsz := hsz, hsame := hsm, h1 := fun b h => h.elim (fun h => h) fun h => h.elim, h2 := fun b h => .inl h, h3 := fun b h => Nat.lt_of_lt_of_le (hS b h) hsz, h4 := fun b h => h.elim (fun h => ⟨.inl ((hFe b).2 h), hdis b ((hFe b).2 h), Nat.lt_of_lt_of_le (hFa b ((hFe b).2 h)) hsz⟩) fun h => h.elim, h5 := fun b _ h => h }, ?_, ?_⟩
      · simp only [ResL]
        exact ⟨[v'], [], F1, fun _ => False, rfl, hrep, ⟨rfl, fun _ h => h⟩, fun _ _ h => h, fun b => ⟨.inl, fun h => h.elim (fun h => h) fun h => h.elim⟩⟩
      · simp only [ArgL, Arg]
        exact ⟨u, [], fun _ => False, fun _ => False, rfl, fun _ h => h, ⟨rfl, fun _ h => h⟩, fun _ _ h => h, fun b => ⟨.inl, fun h => h.elim (fun h => h) fun h => h⟩⟩
    rcases srow2 (d := 5) (xs := x) (v := u) k1 fun b hb => hFa b ((hFe b).2 hb) with ⟨hx, ⟨A, rfl⟩, hno⟩ | ⟨b, ⟨o, c, arr, rfl, r1, r2, r3, r4⟩, hFb⟩
    · refine Calls.mono (h0 A 0 w) ?_
      rintro e w' ⟨rfl, rfl⟩
      have hx' : x = ([] : List ByteArray) := hx
      refine fin _ _ (.inl ⟨⟨A, rfl⟩, ?_, ?_⟩) (Same.refl _) (Nat.le_refl _) fun _ _ _ => rfl
      · rw [hx']; rfl
      · exact hno
    · have hH := row_holds r3 (show o + (x : List ByteArray).length ≤ arr.size by omega) r4
      have hcall := h b o c ((x : List ByteArray).map listOf) w hH (by have e : ((x : List ByteArray).map listOf).length = (x : List ByteArray).length := List.length_map _; omega) (by have e : ((x : List ByteArray).map listOf).length = (x : List ByteArray).length := List.length_map _; omega)
      have hcl := compact_le ((x : List ByteArray).map listOf)
      have hml : ((x : List ByteArray).map listOf).length = (x : List ByteArray).length := List.length_map _
      rw [hml] at hcall hcl
      refine Calls.mono hcall ?_
      rintro e w' ⟨rfl, q, rfl⟩
      obtain ⟨p1, p2, p3, p4⟩ := putRow_own (enc := encStr) (off := o) (ahead_own (n := q) r3) (Lib.compact ((x : List ByteArray).map listOf) ++ List.replicate ((x : List ByteArray).length - (Lib.compact ((x : List ByteArray).map listOf)).length) []).toArray
      have hrow : Row (putRow encStr (Sort.ahead w q) b o (Lib.compact ((x : List ByteArray).map listOf) ++ List.replicate ((x : List ByteArray).length - (Lib.compact ((x : List ByteArray).map listOf)).length) []).toArray) (.slice (some ⟨b, o, none⟩) (Lib.compact ((x : List ByteArray).map listOf)).length c) (compactB x) b := by
        refine ⟨o, c, _, by rw [compactB, List.length_map], by rw [compactB, List.length_map]; omega, ?_, p1, ?_⟩
        · simpa [putCells] using r2
        · intro k hk
          rw [compactB, List.length_map] at hk
          have := put_cells (o := o) (arr := arr) (Lib.compact ((x : List ByteArray).map listOf) ++ List.replicate ((x : List ByteArray).length - (Lib.compact ((x : List ByteArray).map listOf)).length) []) (by rw [List.length_append, List.length_replicate]; omega) k (by rw [List.length_append]; omega)
          rw [this, List.map_append, List.map_append, List.getElem?_append_left (by rw [List.length_map, List.length_map]; exact hk)]
          rfl
      refine fin _ _ (rep_iff (rep_of_row (d := 8) hrow) hFb) (Same.trans (⟨rfl, rfl, rfl⟩ : Same w (Sort.ahead w q)) p4) ?_ fun k hk hn => ?_
      · rw [p2]; exact Nat.le_refl _
      · exact p3 k fun e => hn ((hFe k).2 ((hFb k).2 e))
end Go.Abs
set_option linter.unusedVariables false
set_option linter.unusedSimpArgs false
/-! ### Words of the plain proofs -/
namespace Go.Abs
open Go

section
variable {α : Type} {x y : α} {p q r : Prop} [Decidable p] [Decidable q] [Decidable r]
theorem bifT (h : p) : cond (decide p) x y = x := by rw [decide_eq_true h]; rfl
theorem bifF (h : ¬ p) : cond (decide p) x y = y := by rw [decide_eq_false h]; rfl
theorem bifNT (h : ¬ p) : cond (!(decide p)) x y = x := by rw [decide_eq_false h]; rfl
theorem bifNF (h : p) : cond (!(decide p)) x y = y := by rw [decide_eq_true h]; rfl
theorem bif2T (h : p) (k : q) : cond (decide p && decide q) x y = x := by rw [decide_eq_true h, decide_eq_true k]; rfl
theorem bif2F (h : ¬ (p ∧ q)) : cond (decide p && decide q) x y = y := by
  by_cases hp : p
  · rw [decide_eq_true hp, decide_eq_false (fun hq => h ⟨hp, hq⟩)]; rfl
  · rw [decide_eq_false hp]; rfl
theorem bif3T (h : p) (k : q) (l : r) : cond (decide p && (decide q && decide r)) x y = x := by rw [decide_eq_true h, decide_eq_true k, decide_eq_true l]; rfl
end
theorem notT {α : Type} {x y : α} : cond (!true) x y = y := rfl
theorem notF {α : Type} {x y : α} : cond (!false) x y = x := rfl
theorem sB {α β : Type} (x : α) (f : α → Option β) : (some x).bind f = f x := rfl
theorem nB {α β : Type} (f : α → Option β) : (none : Option α).bind f = none := rfl
theorem bindEq {α β : Type} {o : Option α} {x : α} {f : α → Option β} {r : Option β} (h : o = some x) (k : f x = r) : o.bind f = r := by rw [h]; exact k

/-- down an index -/
theorem downTo {n : Nat} {P : Nat → Prop} (h0 : P n) (hs : ∀ i, i < n → P (i + 1) → P i) : ∀ i, i ≤ n → P i := by
  have key : ∀ d i, i + d = n → P i := by
    intro d
    induction d with
    | zero => intro i hi; have : i = n := by omega
              rw [this]; exact h0
    | succ d ih => intro i hi; exact hs i (by omega) (ih (i + 1) (by omega))
  intro i hi
  exact key (n - i) i (by omega)

theorem up1 {i : Nat} (h : i < 4611686018427387904) : w64 ((i : Int) + 1) = ((i + 1 : Nat) : Int) := by rw [w64_id (by omega) (by omega)]; omega
theorem dn1 {i : Nat} (h0 : 0 < i) (h : i < 4611686018427387904) : w64 ((i : Int) - 1) = ((i - 1 : Nat) : Int) := by rw [w64_id (by omega) (by omega)]; omega
theorem room16 : room 16 = 8796093022208 := by decide
theorem room24 : room 24 = 5864062014805 := by decide
theorem room8 : room 8 = 17592186044416 := by decide
theorem room40 : room 40 = 3518437208883 := by decide

theorem toList_loop (s : ByteArray) : ∀ (d i : Nat) (r : List UInt8), i + d = s.size → ByteArray.toList.loop s i r = r.reverse ++ s.data.toList.drop i := by
  intro d
  induction d with
  | zero =>
    intro i r hi
    unfold ByteArray.toList.loop
    rw [if_neg (by omega), List.drop_eq_nil_of_le (by rw [Array.length_toList]; show s.size ≤ i; omega), List.append_nil]
  | succ d ih =>
    intro i r hi
    unfold ByteArray.toList.loop
    rw [if_pos (by omega), ih (i + 1) _ (by omega)]
    have hlt : i < s.data.toList.length := by rw [Array.length_toList]; show i < s.size; omega
    rw [List.reverse_cons, List.append_assoc, List.drop_eq_getElem_cons hlt]
    congr 1
    have : s.get! i = s.data.toList[i] := by
      have h2 : i < s.data.size := by rw [← Array.length_toList]; exact hlt
      show s.data[i]! = _
      rw [getElem!_pos s.data i h2]; simp
    rw [this]; rfl
theorem toList_data (s : ByteArray) : s.toList = s.data.toList := by
  unfold ByteArray.toList
  rw [toList_loop s s.size 0 [] (by omega)]
  simp
theorem toList_beq (s t : ByteArray) : (s.toList == t.toList) = decide (s = t) := by
  rw [toList_data, toList_data]
  by_cases h : s = t
  · subst h; simp
  · rw [decide_eq_false h]
    exact beq_eq_false_iff_ne.2 fun e => h (ByteArray.ext (Array.toList_inj.1 e))

theorem drop_at {α : Type} {l : List α} {i : Nat} (h : i < l.length) (d : α) : l.drop i = l.getD i d :: l.drop (i + 1) := by
  rw [List.drop_eq_getElem_cons h]; simp [List.getD, h]
theorem getD_mem {α : Type} {l : List α} {i : Nat} (h : i < l.length) (d : α) : l.getD i d ∈ l := by
  have : l.getD i d = l[i] := by simp [List.getD, h]
  rw [this]; exact List.getElem_mem h
theorem set_same {α : Type} {l : List α} {i : Nat} (h : i < l.length) (x y : α) : (l.set i x).getD i y = x := by
  simp [List.getD, h]
theorem set_else {α : Type} {l : List α} {i j : Nat} (h : i ≠ j) (x y : α) : (l.set i x).getD j y = l.getD j y := by
  simp [List.getD, List.getElem?_set_ne h]
theorem all_of_getD {α : Type} {l : List α} {P : α → Prop} (d : α) (h : ∀ i, i < l.length → P (l.getD i d)) : ∀ x ∈ l, P x := by
  intro x hx
  obtain ⟨i, hi, rfl⟩ := List.mem_iff_getElem.1 hx
  have := h i hi
  simpa [List.getD, hi] using this
theorem list_ext_getD {α : Type} {l m : List α} (d : α) (h : l.length = m.length) (k : ∀ i, i < l.length → l.getD i d = m.getD i d) : l = m := by
  apply List.ext_getElem h
  intro i h1 h2
  have := k i h1
  simpa [List.getD, h1, h2] using this
theorem getD_mid {α : Type} (pre : List α) (x : α) (r : List α) (d : α) : (pre ++ x :: r).getD pre.length d = x := by simp [List.getD]
theorem set_mid {α : Type} (pre : List α) (x y : α) (r : List α) : (pre ++ x :: r).set pre.length y = pre ++ y :: r := by simp
end Go.Abs
