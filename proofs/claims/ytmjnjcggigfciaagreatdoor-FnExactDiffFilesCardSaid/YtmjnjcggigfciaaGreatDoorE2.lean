import Derived.Test.YtmjnjcggigfciaaGreatDoorE1
import Derived.Deep.AppendSrc
import Derived.Laws.MakeOwn
import Derived.Great.BuildSlice
import Derived.Laws.Slices
import Derived.Deep.Upon
import Derived.Orders
set_option linter.unusedVariables false
set_option linter.unusedSimpArgs false
set_option linter.unnecessarySimpa false
set_option linter.unusedSectionVars false
namespace Go.Abs
open Go

theorem setCells_own {q b : Nat} : ∀ (vs : List Value) (w : World) (o : Nat) (c : Array Value), Own q w b c → Own q (w.setCells b o vs) b (ovr c o vs) ∧ (w.setCells b o vs).heap.size = w.heap.size ∧
    (∀ k, k ≠ b → (w.setCells b o vs).heap[k]? = w.heap[k]?) ∧ Same w (w.setCells b o vs)
  | [], w, o, c, h => ⟨h, rfl, fun _ _ => rfl, Same.refl w⟩
  | v :: vs, w, o, c, h => by
    obtain ⟨h1, h2, h3, h4⟩ := setCells_own vs (w.setCell ⟨b, o, none⟩ v) (o + 1) _ (setCell_own v h)
    exact ⟨h1, h2.trans setCell_size, fun k hk => (h3 k hk).trans (setCell_other hk), Same.trans (⟨rfl, rfl, rfl⟩ : Same w (w.setCell ⟨b, o, none⟩ v)) h4⟩

theorem alloc_lt {w : World} {o : Obj} : ∀ b, b < w.heap.size → (w.alloc o).heap[b]? = w.heap[b]? := fun b hb => by
  show (w.heap.push o)[b]? = _
  rw [Array.getElem?_push, if_neg (Nat.ne_of_lt hb)]
theorem alloc_own {q : Nat} {w : World} {c : Array Value} {e : TypeId} : Own q (w.alloc (.cells c e)) w.heap.size c := ⟨e, 0, 0, by show (w.heap.push _)[w.heap.size]? = _; simp, fun i _ h => by omega⟩
theorem alloc_size {w : World} {o : Obj} : (w.alloc o).heap.size = w.heap.size + 1 := by show (w.heap.push o).size = _; simp [put_sl, put_rt, putR_sl, putR_rt]
theorem alloc_same {w : World} {o : Obj} : Same w (w.alloc o) := ⟨rfl, rfl, rfl⟩

section
variable {C : Ctx} {s : St} {rv : Nat → Value} {F : Nat → Fp} {S G : Fp} {w : World} {P : Program} {E : Env} {a : Act}

def Post (C : Ctx) (s : St) (rv : Nat → Value) (w : World) (S : Fp) (e : Eff) (v : Value) (w' : World) : Prop :=
  ∃ rv' F' S' G', Mem C (putRs e.rts s).rt rv' F' S' G' w' ∧ Keep w S s.rt rv w' S' (putRs e.rts s).rt rv' ∧ RSV w' S' (putRs e.rts s).rt rv' e.v v

theorem Post.mk {e : Eff} {v : Value} {w' : World} {rt' : Nat → RSt} {rv' : Nat → Value} {F' : Nat → Fp} {S' G' : Fp} (h : (putRs e.rts s).rt = rt') (m : Mem C rt' rv' F' S' G' w')
    (k : Keep w S s.rt rv w' S' rt' rv') (r : RSV w' S' rt' rv' e.v v) : Post C s rv w S e v w' := ⟨rv', F', S', G', by rw [h]; exact m, by rw [h]; exact k, by rw [h]; exact r⟩

def Does (P : Program) (o : Oper) (a : Act) (w : World) (post : Value → World → Prop) : Prop :=
  (∃ v w', (execOp a.eval o).run P w = .ok (.value v) w' ∧ post v w') ∨
  (∃ w', (execOp a.eval o).run P w = .ok .skip w' ∧ post undef w') ∨
  ∃ f args w', (execOp a.eval o).run P w = .ok (.enter f args) w' ∧ Calls P f args w' fun e w'' => ∃ v, e = .returned v ∧ post v w''

theorem Quiet.does {o : Oper} {e : Eff} (m : Mem C s.rt rv F S G w) (h : Quiet P o a w S s rv e) : Does P o a w (Post C s rv w S e) := by
  obtain ⟨h1, v, h2, h3⟩ := h
  refine .inl ⟨v, w, h2, rv, F, S, G, ?_, ?_, ?_⟩
  · rw [h1]; exact m
  · rw [h1]; exact Keep.refl _ _ _ _
  · rw [h1]; exact h3

theorem fresh_some {α : Type} {id : Nat} {k : Rd α} {l : List Nat} {q : α × List Nat} (h : (fresh id k).run s l = some q) : s.rt id = .none ∧ k.run s ((2 * id + 1) :: l) = some q := by
  simp only [fresh, Rd.run] at h
  cases hr : s.rt id <;> simp only [hr] at h <;> try exact (fail_some h).elim
  exact ⟨rfl, h⟩

mutual
theorem BRep_one {rt : Nat → RSt} : ∀ {v : SV} {σ : Ty} {cs : List Value}, BRep w S rt rv v σ cs → ∀ u ∈ cs, u.oneCell' = true
  | .agg vs, σ, cs, h => by simp only [BRep] at h; exact BRepL_one h.2
  | .val τ x, σ, cs, h => by obtain ⟨_, h'⟩ := BRep_val_rep h; exact rep_one h'
  | .nil, σ, cs, h => by simp only [BRep] at h; obtain ⟨_, A, h⟩ := h; rw [h]; simp [put_sl, put_rt, putR_sl, putR_rt, Value.oneCell']
  | .at id ver p, σ, cs, h => by simp only [BRep] at h; obtain ⟨_, v, rfl, h1, _⟩ := h; simpa using h1
  | .ptr _ _ _ _, _, _, h | .sp _ _, _, _, h | .bp _ _, _, _, h | .tup _, _, _, h | .fn _ _, _, _, h => by simp [put_sl, put_rt, putR_sl, putR_rt, BRep] at h
  | .undef, σ, cs, h => by simp only [BRep] at h; exact h.2
theorem BRepL_one {rt : Nat → RSt} : ∀ {vs : List SV} {σ : Ty} {cs : List Value}, BRepL w S rt rv vs σ cs → ∀ u ∈ cs, u.oneCell' = true
  | [], σ, cs, h => by simp [put_sl, put_rt, putR_sl, putR_rt, BRepL] at h
  | v :: vs, .pair f r, cs, h => by
    rw [brepL_pair] at h
    intro u hu
    rw [← List.take_append_drop f.size cs] at hu
    rcases List.mem_append.1 hu with hu | hu
    · exact BRep_one h.1 u hu
    · exact BRepL_one h.2 u hu
  | [v], .one f, cs, h => by simp only [BRepL] at h; exact BRep_one h
  | [v], .int _, cs, h => by simp only [BRepL] at h; exact BRep_one h
  | [v], .bool, cs, h => by simp only [BRepL] at h; exact BRep_one h
  | [v], .str, cs, h => by simp only [BRepL] at h; exact BRep_one h
  | [v], .list _, cs, h => by simp only [BRepL] at h; exact BRep_one h
  | _ :: _ :: _, .one _, cs, h | _ :: _ :: _, .int _, cs, h | _ :: _ :: _, .bool, cs, h | _ :: _ :: _, .str, cs, h | _ :: _ :: _, .list _, cs, h => by simp [put_sl, put_rt, putR_sl, putR_rt, BRepL] at h
end

/-- no slice among the cells of a plain value -/
theorem flat_noslice : ∀ {τ : Ty} {d : Nat} {x : τ.den} {cs : List Value} {F : Fp}, τ.flat = true → rep w S τ d x cs F → ∀ a n c, Value.slice a n c ∉ cs
  | .int _, _, _, _, _, _, h => by rw [h.1]; simp [put_sl, put_rt, putR_sl, putR_rt]
  | .bool, _, _, _, _, _, h => by rw [h.1]; simp [put_sl, put_rt, putR_sl, putR_rt]
  | .str, _, _, _, _, _, h => by rw [h.1]; simp [put_sl, put_rt, putR_sl, putR_rt]
  | .one f, _, _, _, _, k, h => flat_noslice (τ := f) k h
  | .pair f r, _, _, cs, _, k, h => by
    simp [put_sl, put_rt, putR_sl, putR_rt, Ty.flat] at k
    obtain ⟨F1, F2, h1, h2, _⟩ := h
    intro a n c hm
    rw [← List.take_append_drop f.size cs] at hm
    rcases List.mem_append.1 hm with hm | hm
    · exact flat_noslice k.1 h1 a n c hm
    · exact flat_noslice k.2 h2 a n c hm
  | .list _, _, _, _, _, k, _ => by simp [put_sl, put_rt, putR_sl, putR_rt, Ty.flat] at k

theorem run_storeVar {t : TypeId} {σ : Ty} (ht : TyOk P t σ) {b o : Nat} {arr : Array Value} {v : Value} {q : Nat} (hb : Own q w b arr) (ho : o + σ.size ≤ arr.size) (hl : v.cells.toList.length = σ.size)
    (h1 : ∀ u ∈ v.cells.toList, u.oneCell' = true) :
    ∃ w', (Instr.storeAt t (.pointer (some ⟨b, o, none⟩)) v).run P w = .ok () w' ∧ Own q w' b (ovr arr o v.cells.toList) ∧ w'.heap.size = w.heap.size ∧ (∀ k, k ≠ b → w'.heap[k]? = w.heap[k]?) ∧ Same w w' := by
  obtain ⟨w', r, h2, h3, h4, h5⟩ := run_store_seg (P := P) v.cells.toList w o 0 arr hb (by omega) h1
  refine ⟨w', ?_, by simpa using h2, h3, h4, h5⟩
  have hsz : v.cells.size = σ.size := by simpa using hl
  simp only [Instr.storeAt, Instr.sureAddr, Sem.run_bind, Sem.run_pure, Result.andThen_ok, storeVar, ht.size, hsz, ne_eq, not_true_eq_false, if_false]
  exact r

variable (m : Mem C s.rt rv F S G w) (hs : ∀ i, RSV w S s.rt rv (s.sl i) (a.tmps.getD i undef)) (hE : EnvTy P E)
theorem sameP_eq {α : Type} {k : Rd α} {s : St} {l : List Nat} {r : α × List Nat} : ∀ {p q : List Step}, (sameP p q k).run s l = some r → p = q ∧ k.run s l = some r
  | [], [], h => ⟨rfl, h⟩
  | .ix i :: p, .ix j :: q, h => by
    simp only [sameP] at h
    obtain ⟨h1, h2⟩ := chk_some h
    obtain ⟨h3, h4⟩ := sameP_eq h2
    exact ⟨by rw [of_decide_eq_true h1, h3], h4⟩
  | .fl i :: p, .fl j :: q, h => by
    simp only [sameP] at h
    cases hb : Nat.beq i j with
    | true =>
      rw [hb] at h
      obtain ⟨h3, h4⟩ := sameP_eq h
      exact ⟨by rw [Nat.eq_of_beq_eq_true hb, h3], h4⟩
    | false => rw [hb] at h; exact (fail_some h).elim
  | .ix _ :: _, .fl _ :: _, h | .fl _ :: _, .ix _ :: _, h | [], .ix _ :: _, h | [], .fl _ :: _, h | .ix _ :: _, [], h | .fl _ :: _, [], h => by simp only [sameP] at h; exact (fail_some h).elim

theorem set_get_kind : ∀ {τ : Ty} {x : τ.den} {p : List Step} {z : Dyn} {y : Dyn} {xs : τ.den}, setP τ x p z = some xs → getP τ x p = some y → y.1 = z.1 := by
  intro τ x p
  induction p generalizing τ with
  | nil =>
    intro z y xs h1 h2
    have e1 : setP τ x [] z = if h : z.1 = τ then some (h ▸ z.2) else none := by cases τ <;> rfl
    have e2 : getP τ x [] = some ⟨τ, x⟩ := by cases τ <;> rfl
    rw [e1] at h1; rw [e2] at h2
    cases h2
    split at h1
    · rename_i h; exact h.symm
    · cases h1
  | cons st p ih =>
    intro z y xs h1 h2
    cases st with
    | ix i =>
      cases τ with
      | list e =>
        simp only [setP, getP] at h1 h2
        obtain ⟨q, h3, _⟩ := Option.map_eq_some_iff.1 h1
        exact ih h3 h2
      | _ => simp [put_sl, put_rt, putR_sl, putR_rt, setP] at h1
    | fl k =>
      have e1 : setP τ x (.fl k :: p) z = (τ.getF k x).bind fun y => (setP y.1 y.2 p z).bind fun z' => τ.setF k x ⟨y.1, z'⟩ := by cases τ <;> rfl
      have e2 : getP τ x (.fl k :: p) = (τ.getF k x).bind fun y => getP y.1 y.2 p := by cases τ <;> rfl
      rw [e1] at h1; rw [e2] at h2
      obtain ⟨q, h3, h4⟩ := Option.bind_eq_some_iff.1 h1
      rw [h3] at h2
      obtain ⟨q', h5, _⟩ := Option.bind_eq_some_iff.1 h4
      exact ih h5 h2

theorem zeroV_brep {rt : Nat → RSt} : ∀ {f : Ty} {cs : List Value}, zeroOk f cs = true → BRep w S rt rv (zeroV f) f cs
  | .list e, cs, h => by
    unfold zeroOk at h
    split at h
    · simp only [zeroV, BRep]; exact ⟨⟨_, rfl⟩, none, rfl⟩
    · cases h
  | .int _, cs, h | .bool, cs, h | .str, cs, h | .one _, cs, h | .pair _ _, cs, h => BRep_val (zero_rep h)
theorem zeroFs_brep {rt : Nat → RSt} : ∀ {σ : Ty} {cs : List Value}, σ.chain = true → zeroOk σ cs = true → BRepL w S rt rv (zeroFs σ) σ cs
  | .one f, cs, _, h => by simp only [zeroFs, BRepL]; exact zeroV_brep h
  | .pair f r, cs, hf, h => by
    simp only [zeroOk, Bool.and_eq_true] at h
    have e : ∀ v vs, BRepL w S rt rv (v :: vs) (.pair f r) cs = (BRep w S rt rv v f (cs.take f.size) ∧ BRepL w S rt rv vs r (cs.drop f.size)) := by intro v vs; cases vs <;> simp [BRepL]
    simp only [zeroFs]
    rw [e]
    exact ⟨zeroV_brep h.1, zeroFs_brep (σ := r) hf h.2⟩
theorem zeroB_brep {rt : Nat → RSt} {σ : Ty} {cs : List Value} (h : zeroOk σ cs = true) : BRep w S rt rv (zeroB σ) σ cs := by
  unfold zeroB
  cases ha : σ.isAgg with
  | false => exact zeroV_brep h
  | true =>
    cases hc : !σ.flat && σ.chain with
    | false => exact BRep_val (zero_rep h)
    | true =>
      rw [Bool.and_eq_true] at hc
      simp only [cond_true, BRep]
      exact ⟨ha, zeroFs_brep hc.2 h⟩
include m hs hE

theorem op_alloc {n d : Nat} {o : Oper} {t : TypeId} (ho : o.op = .alloc t) {e : Eff} {l l' : List Nat} (h : (op E n d (.alloc t)).run s l = some (e, l')) : Does P o a w (Post C s rv w S e) := by
  simp only [op] at h
  obtain ⟨σ, bb, h5, h6⟩ := tyOf_some h
  obtain ⟨hf, h7⟩ := fresh_some h6
  have := ret_some h7; cases this
  obtain ⟨z, hz, hzo⟩ := (hE.ok h5).1.zeroV w
  have hb : BRep w S s.rt rv (zeroB σ) σ z.cells.toList := zeroB_brep hzo
  obtain ⟨g1, g2⟩ := newBox m hf (w' := w.alloc (.cells z.cells t)) alloc_lt (by rw [alloc_size]; omega) alloc_same (Nat.le_refl _) alloc_own (by simpa using BRep_len hb) hb
  refine .inl ⟨.pointer (some ⟨w.heap.size, 0, none⟩), w.alloc (.cells z.cells t), ?_, ?_⟩
  · simp [put_sl, put_rt, putR_sl, putR_rt, execOp, ho, Instr.alloc, Sem.run_bind, hz, newVar, newRow]
  · refine Post.mk (putRs_one _ _ _) g1 g2 ?_
    simp only [RSV, RBp, updRt, if_true]
    exact ⟨w.heap.size, σ, 0, rfl, rfl, rfl⟩

theorem op_box {n d : Nat} {o : Oper} {t : TypeId} {x : Operand} (ho : o.op = .box t x) {e : Eff} {l l' : List Nat} (h : (op E n d (.box t x)).run s l = some (e, l')) : Does P o a w (Post C s rv w S e) := by
  simp only [op] at h
  obtain ⟨σ, bb, h5, h6⟩ := tyOf_some h
  obtain ⟨hf, h7⟩ := fresh_some h6
  obtain ⟨v, l1, h8, h9⟩ := run_bind_some h7
  obtain ⟨_, l2, h10, h11⟩ := run_bind_some h9
  have := ret_some h11; cases this
  have hx := opd_sound hs h8
  have hb : BRep w S s.rt rv v σ (a.eval x).cells.toList := stor_sound m h10 hx
  obtain ⟨g1, g2⟩ := newBox m hf (w' := w.alloc (.cells (a.eval x).cells t)) alloc_lt (by rw [alloc_size]; omega) alloc_same (Nat.le_refl _) alloc_own (by simpa using BRep_len hb) hb
  refine .inl ⟨.pointer (some ⟨w.heap.size, 0, none⟩), w.alloc (.cells (a.eval x).cells t), ?_, ?_⟩
  · simp [put_sl, put_rt, putR_sl, putR_rt, execOp, ho, Instr.box, newVar, newRow]
  · refine Post.mk (putRs_one _ _ _) g1 g2 ?_
    simp only [RSV, RBp, updRt, if_true]
    exact ⟨w.heap.size, σ, 0, rfl, rfl, rfl⟩

theorem op_store {n d : Nat} {o : Oper} {t : TypeId} {x y : Operand} (ho : o.op = .store t x y) {e : Eff} {l l' : List Nat} (h : (op E n d (.store t x y)).run s l = some (e, l')) : Does P o a w (Post C s rv w S e) := by
  simp only [op] at h
  obtain ⟨σ, bb, h5, h6⟩ := tyOf_some h
  obtain ⟨u, l1, h1, h2⟩ := run_bind_some h6
  have hx := opd_sound hs h1
  have ht := (hE.ok h5).1
  split at h2
  · rename_i id ver p τp
    obtain ⟨v, l2, h3, h4⟩ := run_bind_some h2
    have hy := opd_sound hs h3
    simp only [Rd.run] at h4
    simp only [RSV, RPtr] at hx
    replace hx := hx.2
    cases hr : s.rt id <;> simp only [hr] at h4 <;> try exact (fail_some h4).elim
    · rename_i r
      rw [hr] at hx
      cases hc : Nat.ble (nix p) 1 || Nat.beq r.ver ver with
      | false => rw [hc] at h4; exact (fail_some h4).elim
      | true =>
        rw [hc] at h4
        simp only [cond_true] at h4
        obtain ⟨⟨z, tk⟩, l3, h7, h8⟩ := run_bind_some h4
        simp only at h8
        split at h8
        · rename_i xs hset
          obtain ⟨hap, h9⟩ := chk_some h8
          have := ret_some h9; cases this
          have hcond : nix p ≤ 1 ∨ r.ver = ver := (Bool.or_eq_true_iff.1 hc).imp Nat.le_of_ble_eq_true Nat.eq_of_beq_eq_true
          obtain ⟨hn, b, o1, hw, hv⟩ := hx.2 hcond
          obtain ⟨n1, n2, Fl, Sl, sp, hrep⟩ := lay_sound m σ _ v _ _ z tk (a.eval y) h7 hy
          obtain ⟨m1, K1⟩ := consume m n1 n2 sp
          have hid : id ∉ ids tk := fun hh => apartIds_spec hap id (by simp [put_sl, put_rt, putR_sl, putR_rt, ids]) hh
          have hr1 : (putRs tk s).rt id = .live r := by rw [putRs_other tk s id hid]; exact hr
          have hlive := m1.live id r hr1
          obtain ⟨y', hy', qk, arr, Fs, Fr, a1, _, a3, a4, a5, a6, a7, a8⟩ := focV hlive hw hn
          obtain ⟨ho1, hb2, hb3⟩ := a7 trivial
          -- the kind
          have hσ : τp = σ := by
            exact set_get_kind hset hy'
          subst hσ
          rw [depth_nix] at a4 a8 hrep
          have hlen : (a.eval y).cells.toList.length = τp.size := rep_len hrep
          have hone := rep_one hrep
          obtain ⟨w', hrun, k2, k3, k4, k5⟩ := run_storeVar (P := P) ht ho1 a3 hlen hone
          have hFidb : ∀ b', Fr b' ∨ Fs b' ∨ True ∧ b' = b → F id b' := fun b' hb' => ((a6 b').2 hb').1
          have hSb : ∀ b', (S b' ∨ Sl b') → b' ≠ b := fun b' hb' e => by
            subst e
            exact (m1.sep id b' ((a6 b').2 (.inr (.inr ⟨trivial, rfl⟩)))).1 hb'
          have hFlb : ∀ b', Fl b' → b' ≠ b := fun b' hb' e => by
            subst e
            exact (m1.sep id b' ((a6 b').2 (.inr (.inr ⟨trivial, rfl⟩)))).2 (.inr hb')
          have hsegeq : seg (ovr arr o1 (a.eval y).cells.toList) o1 τp.size = (a.eval y).cells.toList := by
            have := seg_ovr (c := arr) (o := o1) (vs := (a.eval y).cells.toList) (by omega)
            rwa [hlen] at this
          have hrep' : rep w' (fun b' => S b' ∨ Sl b') τp (r.d + 1 - nix p) z (seg (ovr arr o1 (a.eval y).cells.toList) o1 τp.size) Fl := by
            rw [hsegeq]
            exact rep_frame (fun _ h => h) (fun b' hb' => k4 b' (hSb b' hb')) (fun b' hb' => k4 b' (hFlb b' hb')) hrep
          obtain ⟨xs', s1, s2⟩ := a8 w' (fun b' => S b' ∨ Sl b') (ovr arr o1 (a.eval y).cells.toList) z Fl (fun _ h => h)
            (fun b' hb' => k4 b' (by
              rintro rfl
              rcases hb' with hb' | hb'
              · exact hb2 hb'
              · exact hSb _ hb' rfl)) (ovr_size _ _ _) (fun i hi => ovr_other (by omega) i (by omega)) (fun _ => k2) hrep'
            (fun b' hb' hc' => by
              have h1 := (a6 b').2 (.inl hb')
              exact (m1.sep id b' h1).2 (.inr hc')) (fun _ hb' => hFlb _ hb' rfl)
          simp only at s1
          rw [s1] at hset
          cases hset
          have hwk : ∀ k, ¬ (F id k ∧ id ∉ ids tk) → k < w.heap.size → w'.heap[k]? = w.heap[k]? := fun k hk _ => k4 k (by
            rintro rfl
            exact hk ((a6 _).2 (.inr (.inr ⟨trivial, rfl⟩))))
          have hver : ∀ q, q = (bif τp.flat then r.ver else r.ver + 1) → r.ver ≤ q ∧ (q = r.ver → τp.flat = true) := by
            intro q hq
            cases hfl : τp.flat with
            | true => rw [hfl] at hq; simp [put_sl, put_rt, putR_sl, putR_rt] at hq; exact ⟨by omega, fun _ => rfl⟩
            | false => rw [hfl] at hq; simp [put_sl, put_rt, putR_sl, putR_rt] at hq; exact ⟨by omega, fun h => by omega⟩
          obtain ⟨v1, v2⟩ := hver _ rfl
          obtain ⟨m2, K2⟩ := setRoot m1 (r' := { r with xs := xs, ver := bif τp.flat then r.ver else r.ver + 1 }) (.inl hr1) (S' := fun b' => S b' ∨ Sl b') (F' := fun b' => Fr b' ∨ Fl b' ∨ (True ∧ b' = b))
            (fun _ h => h) (fun b' hb' => .inl hb') hwk (by omega) k5 rfl (fun _ => rfl) v1 s2
            (by
              rintro b' (hb' | hb' | hb')
              · exact .inl ((a6 b').2 (.inl hb'))
              · exact .inr (.inl (.inr hb'))
              · exact .inl ((a6 b').2 (.inr (.inr hb'))))
            (by
              intro hvv p' σ2 b2 o2 hn2 hw2
              have hfl := v2 hvv
              have hslice : SlicesStay w w' (fun b' => F id b' ∧ id ∉ ids tk) := by
                intro b' o' ad nn cc hb' hcell
                by_cases hbb : b' = b
                · subst hbb
                  rw [a1.cell] at hcell
                  rw [k2.has.cell]
                  by_cases hin : o1 ≤ o' ∧ o' < o1 + τp.size
                  · exfalso
                    have hmem : Value.slice (some ad) nn cc ∈ seg arr o1 τp.size := by
                      have : (seg arr o1 τp.size)[o' - o1]? = some (.slice (some ad) nn cc) := by
                        rw [seg_get, if_pos (by omega), show o1 + (o' - o1) = o' by omega]; exact hcell
                      exact List.mem_of_getElem? this
                    exact flat_noslice hfl a4 _ _ _ hmem
                  · rw [ovr_other (by omega) o' (by omega)]; exact hcell
                · have := k4 b' hbb
                  simp only [World.cell?, this] at hcell ⊢
                  exact hcell
              refine ⟨walkV_stay hlive hw2 hn2 hslice, fun hn3 e' v' he hcell => ?_⟩
              subst he
              obtain ⟨y2, _, qk2, arr2, Fs2, Fr2, c1, _, c3, c4, c5, c6, c7, _⟩ := focV hlive hw2 hn2
              -- a slice's cell is no plain one
              by_cases hbb : b2 = b
              · subst hbb
                have hcell0 := hcell
                rw [a1.cell] at hcell
                rw [k2.has.cell]
                by_cases hin : o1 ≤ o2 ∧ o2 < o1 + τp.size
                · exfalso
                  have hseg2 : seg arr2 o2 1 = [v'] := seg_one (by rw [← c1.cell]; exact hcell0)
                  have c4' : rep w (fun b' => S b' ∨ Sl b') (.list e') (depthP (r.d + 1) p') y2 (seg arr2 o2 1) Fs2 := c4
                  rw [hseg2] at c4'
                  obtain ⟨A, cc, rfl⟩ := root_slice c4'
                  have hmem : Value.slice A y2.length cc ∈ seg arr o1 τp.size := by
                    have : (seg arr o1 τp.size)[o2 - o1]? = some (.slice A y2.length cc) := by
                      rw [seg_get, if_pos (by omega), show o1 + (o2 - o1) = o2 by omega]; exact hcell
                    exact List.mem_of_getElem? this
                  exact flat_noslice hfl a4 _ _ _ hmem
                · rw [ovr_other (by omega) o2 (by omega)]; exact hcell
              · have := k4 b2 hbb
                simp only [World.cell?, this] at hcell ⊢
                exact hcell)
          have hrt : (putRs ((id, .live { r with xs := xs, ver := bif τp.flat then r.ver else r.ver + 1 }) :: tk) s).rt = updRt (putRs tk s).rt id (.live { r with xs := xs, ver := bif τp.flat then r.ver else r.ver + 1 }) := by
            funext j
            simp only [putRs, updRt]
            by_cases hj : j = id
            · subst hj
              rw [putRs_other tk _ j hid]; simp [put_sl, put_rt, putR_sl, putR_rt]
            · by_cases hjt : j ∈ ids tk
              · obtain ⟨st, hst⟩ := mem_ids.1 hjt
                rw [putRs_mem tk _ j st n1 hst, if_neg hj, putRs_mem tk _ j st n1 hst]
              · rw [putRs_other tk _ j hjt, if_neg hj, putRs_other tk _ j hjt]; simp [put_sl, put_rt, putR_sl, putR_rt, hj]
          refine .inr (.inl ⟨w', by simp [put_sl, put_rt, putR_sl, putR_rt, execOp, ho, hv, hrun], Post.mk hrt m2 (K1.trans K2) (by simp only [RSV])⟩)
        · exact (fail_some h8).elim
    · rename_i r q
      rw [hr] at hx
      cases hn1 : Nat.beq (nix p) 1 with
      | false => rw [hn1] at h4; exact (fail_some h4).elim
      | true =>
        rw [hn1] at h4
        simp only [cond_true] at h4
        obtain ⟨hpq, h4b⟩ := sameP_eq h4
        subst hpq
        have hn1 := Nat.eq_of_beq_eq_true hn1
        obtain ⟨⟨z, tk⟩, l3, h7, h8⟩ := run_bind_some h4b
        simp only at h8
        split at h8
        · rename_i xs hset
          obtain ⟨hap, h9⟩ := chk_some h8
          have := ret_some h9; cases this
          obtain ⟨b, o1, hw, hv⟩ := hx.2 (by omega)
          obtain ⟨n1, n2, Fl, Sl, sp, hrep⟩ := lay_sound m σ _ v _ _ z tk (a.eval y) h7 hy
          obtain ⟨m1, K1⟩ := consume m n1 n2 sp
          have hid : id ∉ ids tk := fun hh => apartIds_spec hap id (by simp [put_sl, put_rt, putR_sl, putR_rt, ids]) hh
          have hr1 : (putRs tk s).rt id = .hole r p := by rw [putRs_other tk s id hid]; exact hr
          obtain ⟨e, b', o', qk, arr, q1, q2, q3, q4, q5, q6, q7, ⟨y0, hg⟩, q8⟩ := m1.hole id r p hr1
          rw [hw] at q3
          cases q3
          have hσ : (Ty.list e) = σ := set_get_kind hset hg
          subst hσ
          have hlen : (a.eval y).cells.toList.length = (Ty.list e).size := rep_len hrep
          have hone := rep_one hrep
          obtain ⟨w', hrun, k2, k3, k4, k5⟩ := run_storeVar (P := P) ht q4 q5 hlen hone
          have hSb : ∀ b', (S b' ∨ Sl b') → b' ≠ b := fun b' hb' e => by
            subst e
            exact (m1.sep id b' q6).1 hb'
          have hFlb : ∀ b', Fl b' → b' ≠ b := fun b' hb' e => by
            subst e
            exact (m1.sep id b' q6).2 (.inr hb')
          have hsegeq : seg (ovr arr o1 (a.eval y).cells.toList) o1 1 = (a.eval y).cells.toList := by
            have := seg_ovr (c := arr) (o := o1) (vs := (a.eval y).cells.toList) (by rw [hlen]; exact q5)
            rwa [hlen] at this
          have hrep' : rep w' (fun b' => S b' ∨ Sl b') (.list e) r.d z (seg (ovr arr o1 (a.eval y).cells.toList) o1 1) Fl := by
            rw [hsegeq]
            exact rep_frame (fun _ h => h) (fun b' hb' => k4 b' (hSb b' hb')) (fun b' hb' => k4 b' (hFlb b' hb')) hrep
          have hlen1 : (a.eval y).cells.toList.length = 1 := hlen
          obtain ⟨xs', s1, s2⟩ := q8 w' (fun b' => S b' ∨ Sl b') (ovr arr o1 (a.eval y).cells.toList) z Fl (fun _ h => h)
            (fun b' hb' => k4 b' (by
              rcases hb' with hb' | hb'
              · exact hb'.2
              · exact hSb b' hb')) (ovr_size _ _ _) (fun i hi => ovr_other (by omega) i (by omega)) k2 hrep'
            (fun b' hb' hc' => (m1.sep id b' hb').2 (.inr hc'))
          rw [s1] at hset
          cases hset
          have hwk : ∀ k, ¬ (F id k ∧ id ∉ ids tk) → k < w.heap.size → w'.heap[k]? = w.heap[k]? := fun k hk _ => k4 k (by
            rintro rfl
            exact hk q6)
          obtain ⟨m2, K2⟩ := setRoot m1 (r' := { r with xs := xs, ver := r.ver + 1 }) (.inr ⟨⟨p, hr1⟩, Nat.lt_succ_self _⟩) (S' := fun b' => S b' ∨ Sl b') (F' := fun b' => (F id b' ∧ id ∉ ids tk) ∨ Fl b')
            (fun _ h => h) (fun b' hb' => .inl hb') hwk (by omega) k5 rfl (fun h => by simp [put_sl, put_rt, putR_sl, putR_rt] at h) (Nat.le_succ _) s2
            (by
              rintro b' (hb' | hb')
              · exact .inl hb'
              · exact .inr (.inl (.inr hb')))
            (fun h => by simp [put_sl, put_rt, putR_sl, putR_rt] at h)
          have hrt : (putRs ((id, .live { r with xs := xs, ver := r.ver + 1 }) :: tk) s).rt = updRt (putRs tk s).rt id (.live { r with xs := xs, ver := r.ver + 1 }) := by
            funext j
            simp only [putRs, updRt]
            by_cases hj : j = id
            · subst hj
              rw [putRs_other tk _ j hid]; simp [put_sl, put_rt, putR_sl, putR_rt]
            · by_cases hjt : j ∈ ids tk
              · obtain ⟨st, hst⟩ := mem_ids.1 hjt
                rw [putRs_mem tk _ j st n1 hst, if_neg hj, putRs_mem tk _ j st n1 hst]
              · rw [putRs_other tk _ j hjt, if_neg hj, putRs_other tk _ j hjt]; simp [put_sl, put_rt, putR_sl, putR_rt, hj]
          refine .inr (.inl ⟨w', by simp [put_sl, put_rt, putR_sl, putR_rt, execOp, ho, hv, hrun], Post.mk hrt m2 (K1.trans K2) (by simp only [RSV])⟩)
        · exact (fail_some h8).elim
  · rename_i id p
    obtain ⟨v, l2, h3, h4⟩ := run_bind_some h2
    have hy := opd_sound hs h3
    simp only [Rd.run] at h4
    simp only [RSV, RBp] at hx
    cases hr : s.rt id <;> simp only [hr] at h4 <;> try exact (fail_some h4).elim
    rename_i τ c
    rw [hr] at hx
    simp only at hx
    obtain ⟨b, τ', δ', g1, g2, g3⟩ := hx
    rw [g2] at h4
    simp only at h4
    split at h4
    · rename_i he
      subst he
      obtain ⟨_, l3, h7, h8⟩ := run_bind_some h4
      split at h8
      · rename_i c' hc'
        have := ret_some h8; cases this
        obtain ⟨b', arr, q1, q2, q3, q4, q6⟩ := m.box id τ c hr
        obtain rfl : b' = b := by rw [g1] at q1; cases q1; rfl
        have hB := stor_sound m h7 hy
        have hlen := BRep_len hB
        -- the place is there
        have hget : ∃ v0, getSV c p = some v0 := by
          have : ∀ (p : List Nat) (c u c' : SV), setSV c p u = some c' → ∃ v0, getSV c p = some v0 := by
            intro p
            induction p with
            | nil => intro c u c' _; exact ⟨c, by simp [put_sl, put_rt, putR_sl, putR_rt, getSV]⟩
            | cons k p ih =>
              intro c u c' h
              cases c with
              | val τ x =>
                simp only [setSV, getSV] at h ⊢
                obtain ⟨v, h1, h2⟩ := Option.bind_eq_some_iff.1 h
                obtain ⟨q, h3, _⟩ := Option.map_eq_some_iff.1 h2
                obtain ⟨v0, h4⟩ := ih v u q h3
                exact ⟨v0, by rw [h1]; exact h4⟩
              | agg vs =>
                simp only [setSV, getSV] at h ⊢
                obtain ⟨v, h1, h2⟩ := Option.bind_eq_some_iff.1 h
                obtain ⟨q, h3, _⟩ := Option.map_eq_some_iff.1 h2
                obtain ⟨v0, h4⟩ := ih v u q h3
                exact ⟨v0, by rw [h1]; exact h4⟩
              | _ => simp [put_sl, put_rt, putR_sl, putR_rt, setSV] at h
          exact this p c v c' hc'
        obtain ⟨v0, hv0⟩ := hget
        obtain ⟨k1, k2, k3⟩ := BRep_path p q6 g2 hv0
        have hle : δ' + τ'.size ≤ arr.size := by omega
        obtain ⟨w', hrun, o2, o3, o4, o5⟩ := run_storeVar (P := P) ht q2 hle hlen (BRep_one hB)
        have hB' := k3 v c' (ovr arr δ' (a.eval y).cells.toList).toList hc' (by simp [put_sl, put_rt, putR_sl, putR_rt, ovr_size]) (fun i hi => by
          rw [Array.getElem?_toList, Array.getElem?_toList]; exact ovr_other (by omega) i (by omega)) (by
          have : ((ovr arr δ' (a.eval y).cells.toList).toList.drop δ').take τ'.size = seg (ovr arr δ' (a.eval y).cells.toList) δ' τ'.size := rfl
          rw [this]
          have := seg_ovr (c := arr) (o := δ') (vs := (a.eval y).cells.toList) (by omega)
          rw [hlen] at this
          rw [this]; exact hB)
        obtain ⟨m2, K2⟩ := setBox m hr g1 o4 o3 o5 o2 (by rw [ovr_size]; exact q3) hB'
        refine .inr (.inl ⟨w', by simp [put_sl, put_rt, putR_sl, putR_rt, execOp, ho, g3, hrun], Post.mk (putRs_one _ _ _) m2 K2 (by simp only [RSV])⟩)
      · exact (fail_some h8).elim
    · exact (fail_some h4).elim
  · exact (fail_some h2).elim
end
end Go.Abs
set_option linter.unusedVariables false
set_option linter.unusedSimpArgs false
set_option linter.unnecessarySimpa false
set_option linter.unusedSectionVars false
namespace Go.Abs
open Go

/-! ### Rows of cells -/
theorem madeCells_get (z : Array Value) (n i : Nat) (hi : i < n) (hz : 0 < z.size) : (madeCells z n)[i]? = z[i % z.size]? := by
  have hlt : i % z.size < z.size := Nat.mod_lt _ hz
  rw [Array.getElem?_eq_getElem (by rw [size_madeCells]; exact hi)]
  simp only [madeCells, Array.getElem_map, Array.getElem_range]
  rw [getElem!_pos z (i % z.size) hlt, Array.getElem?_eq_getElem hlt]

theorem made_seg {z : Array Value} {σ n i : Nat} (hz : z.size = σ) (hs : 0 < σ) (hi : i < n) : seg (madeCells z (n * σ)) (i * σ) σ = z.toList := by
  apply List.ext_getElem?
  intro j
  rw [seg_get]
  by_cases hj : j < σ
  · have h1 : i * σ + j < n * σ := by
      have : (i + 1) * σ ≤ n * σ := Nat.mul_le_mul_right _ hi
      rw [Nat.add_mul] at this; omega
    have hmod : (i * σ + j) % σ = j := by rw [Nat.add_comm, Nat.add_mul_mod_self_right, Nat.mod_eq_of_lt hj]
    rw [if_pos hj, madeCells_get z _ _ h1 (by omega), hz, hmod]
    simp [put_sl, put_rt, putR_sl, putR_rt]
  · rw [if_neg hj, List.getElem?_eq_none (by simp [put_sl, put_rt, putR_sl, putR_rt]; omega)]

/-- a row of values -/
theorem row_rep {w : World} {S : Fp} {e : Ty} {d : Nat} {xs : List e.den} {b c : Nat} {arr : Array Value} {Gi : Nat → Fp} (hb : Own e.mk w b arr) (hc : xs.length ≤ c) (ha : c * e.size ≤ arr.size)
    (hr : ∀ i (h : i < xs.length), rep w S e d xs[i] (seg arr (i * e.size) e.size) (Gi i)) (hd : ∀ i j b, i < xs.length → j < xs.length → Gi i b → Gi j b → i = j) (hn : ∀ i, i < xs.length → ¬ Gi i b) :
    rep w S (.list e) (d + 1) xs [.slice (some ⟨b, 0, none⟩) xs.length c] (fun b' => b' = b ∨ ∃ i, i < xs.length ∧ Gi i b') := by
  refine .inr ⟨b, 0, c, arr, fun b' => ∃ i, i < xs.length ∧ Gi i b', rfl, hc, by omega, ⟨Gi, ?_, hd, fun b => Iff.rfl⟩, .inr ⟨by omega, hb, ?_, fun b' => Iff.rfl⟩⟩
  · intro i hi
    have := hr i hi
    simpa using this
  · rintro ⟨i, hi, h⟩; exact hn i hi h

section
variable {C : Ctx} {s : St} {rv : Nat → Value} {F : Nat → Fp} {S G : Fp} {w : World} {P : Program} {E : Env} {a : Act}

/-- Several values are laid: each one's blocks. -/
theorem layAll_sound (m : Mem C s.rt rv F S G w) {e : Ty} {d : Nat} : ∀ (vs : List SV) (l l' : List Nat) (xs : List e.den) (tk : RL) (us : List Value),
    (layAll e d vs).run s l = some ((xs, tk), l') → RSVs w S s.rt rv vs us →
    (ids tk).Nodup ∧ Takes s.rt tk ∧ xs.length = us.length ∧ ∃ (Gi : Nat → Fp) (Sl : Fp), Split tk F (fun b => ∃ i, i < xs.length ∧ Gi i b) Sl ∧
      (∀ i (h : i < xs.length) (h' : i < us.length), rep w (fun b => S b ∨ Sl b) e d xs[i] us[i].cells.toList (Gi i)) ∧ (∀ i j b, i < xs.length → j < xs.length → Gi i b → Gi j b → i = j)
  | [], l, l', xs, tk, us, h, hv => by
    simp only [layAll] at h
    have := ret_some h; cases this
    simp only [RSVs] at hv
    subst hv
    exact ⟨by simp [put_sl, put_rt, putR_sl, putR_rt, ids], (fun _ _ h => by cases h), rfl, fun _ _ => False, fun _ => False, ⟨by rintro b ⟨i, hi, h⟩; exact h.elim, fun _ h => h.elim, fun _ h => by obtain ⟨i, _, h⟩ := h; exact h.elim, fun _ _ _ h => by cases h⟩,
      fun i h => by simp [put_sl, put_rt, putR_sl, putR_rt] at h, fun i j b h => by simp [put_sl, put_rt, putR_sl, putR_rt] at h⟩
  | v :: vs, l, l', xs, tk, us, h, hv => by
    simp only [layAll] at h
    obtain ⟨⟨y, t1⟩, l1, h1, h2⟩ := run_bind_some h
    obtain ⟨⟨ys, t2⟩, l2, h3, h4⟩ := run_bind_some h2
    obtain ⟨h5, h6⟩ := chk_some h4
    have := ret_some h6; cases this
    simp only [RSVs] at hv
    obtain ⟨u, us', rfl, hu, hus⟩ := hv
    obtain ⟨g1, g2, Fl, Sl, g3, g4⟩ := lay_sound m e d v _ _ y t1 u h1 hu
    obtain ⟨k1, k2, k3, Gi, Sl', k4, k5, k6⟩ := layAll_sound m vs _ _ ys t2 us' h3 hus
    have hsp := g3.app m h5 k4
    refine ⟨nodup_app g1 k1 h5, g2.app k2, by simp [put_sl, put_rt, putR_sl, putR_rt, k3], fun i => match i with | 0 => Fl | i + 1 => Gi i, fun b => Sl b ∨ Sl' b, ⟨?_, hsp.sl, ?_, hsp.frz⟩, ?_, ?_⟩
    · rintro b ⟨i, hi, hb⟩
      cases i with
      | zero => exact hsp.fl b (.inl hb)
      | succ i => exact hsp.fl b (.inr ⟨i, by simpa using hi, hb⟩)
    · rintro b ⟨i, hi, hb⟩
      cases i with
      | zero => exact hsp.apart b (.inl hb)
      | succ i => exact hsp.apart b (.inr ⟨i, by simpa using hi, hb⟩)
    · intro i hi hi'
      cases i with
      | zero => exact rep_mono (fun b hb => hb.imp (fun h => h) .inl) g4
      | succ i => exact rep_mono (fun b hb => hb.imp (fun h => h) .inr) (k5 i (by simpa using hi) (by simpa using hi'))
    · intro i j b hi hj hb hc
      cases i <;> cases j
      · rfl
      · rename_i j
        exact (taken_apart m h5 (g3.fl b hb) (k4.fl b ⟨j, by simpa using hj, hc⟩)).elim
      · rename_i i
        exact (taken_apart m h5 (g3.fl b hc) (k4.fl b ⟨i, by simpa using hi, hb⟩)).elim
      · rename_i i j
        rw [k6 i j b (by simpa using hi) (by simpa using hj) hb hc]

/-- laid one behind the other -/
theorem fill_row {size : Nat} : ∀ (us : List Value) (k : Nat) (c : Array Value), (∀ u ∈ us, u.cells.toList.length = size) → (k + us.length) * size ≤ c.size →
    Instr.fill (fun i => some (i * size, size)) c ((List.range us.length).zipWith (fun i u => (k + i, u)) us) = some (ovr c (k * size) (us.flatMap fun u : Value => u.cells.toList))
  | [], k, c, _, _ => rfl
  | u :: us, k, c, hl, hc => by
    have hu := hl u (by simp [put_sl, put_rt, putR_sl, putR_rt])
    have hu' : u.cells.size = size := by simpa using hu
    have hzip : (List.range (u :: us).length).zipWith (fun i u => (k + i, u)) (u :: us) = (k, u) :: (List.range us.length).zipWith (fun i u => (k + 1 + i, u)) us := by
      simp only [List.length_cons, List.range_succ_eq_map, List.zipWith_cons_cons, Nat.add_zero, List.zipWith_map_left]
      congr 2
      funext i u
      rw [show k + Nat.succ i = k + 1 + i by omega]
    have hfold : ∀ (vs : List Value) (j o : Nat) (c : Array Value), (vs.zipIdx j).foldl (fun cs p => cs.setIfInBounds (o + p.2) p.1) c = ovr c (o + j) vs := by
      intro vs
      induction vs with
      | nil => intro j o c; rfl
      | cons v vs ih => intro j o c; simp only [List.zipIdx_cons, List.foldl_cons, ovr]; rw [ih]; rfl
    simp only [List.length_cons] at hc
    rw [hzip]
    have hsz : k * size + u.cells.size ≤ c.size := by
      have : (k + 1) * size ≤ (k + (us.length + 1)) * size := Nat.mul_le_mul_right _ (by omega)
      rw [Nat.add_mul] at this; omega
    have hcond : (u.cells.size ≠ size || decide (k * size + u.cells.size > c.size)) = false := by simp [put_sl, put_rt, putR_sl, putR_rt, hu']; omega
    simp only [Instr.fill, hcond, Bool.false_eq_true, if_false]
    have hz : u.cells.zipIdx.foldl (fun cs x => cs.setIfInBounds (k * size + x.2) x.1) c = ovr c (k * size) u.cells.toList := by
      have := hfold u.cells.toList 0 (k * size) c
      rw [← Array.foldl_toList]
      simpa using this
    have ih := fill_row us (k + 1) (ovr c (k * size) u.cells.toList) (fun u hu => hl u (by simp [put_sl, put_rt, putR_sl, putR_rt, hu])) (by rw [ovr_size]; rw [show k + 1 + us.length = k + (us.length + 1) by omega]; exact hc)
    have happ : ∀ (a b : List Value) (o : Nat) (c : Array Value), ovr (ovr c o a) (o + a.length) b = ovr c o (a ++ b) := by
      intro a
      induction a with
      | nil => intro b o c; rfl
      | cons x a iha => intro b o c; simp only [List.cons_append, ovr, List.length_cons]; rw [← iha, show o + 1 + a.length = o + (a.length + 1) by omega]
    rw [show (k + 1) * size = k * size + u.cells.toList.length by rw [Nat.add_mul, hu]; omega, happ] at ih
    rw [List.flatMap_cons, ← ih]
    show Instr.fill (fun i => some (i * size, size)) (u.cells.zipIdx.foldl (fun cs x => cs.setIfInBounds (k * size + x.2) x.1) c) _ = _
    rw [hz]

theorem flat_seg {size : Nat} : ∀ (us : List Value) (i : Nat), (∀ u ∈ us, u.cells.toList.length = size) → (h : i < us.length) →
    ((us.flatMap fun u : Value => u.cells.toList).drop (i * size)).take size = us[i].cells.toList
  | u :: us, 0, hl, h => by
    have hu := hl u (by simp [put_sl, put_rt, putR_sl, putR_rt])
    simp only [Nat.zero_mul, List.drop_zero, List.flatMap_cons, List.getElem_cons_zero]
    rw [List.take_left' hu]
  | u :: us, i + 1, hl, h => by
    have hu := hl u (by simp [put_sl, put_rt, putR_sl, putR_rt])
    have := flat_seg us i (fun u hu => hl u (by simp [put_sl, put_rt, putR_sl, putR_rt, hu])) (by simpa using h)
    simp only [List.flatMap_cons, List.getElem_cons_succ]
    rw [show (i + 1) * size = u.cells.toList.length + i * size by rw [Nat.add_mul, hu]; omega, ← List.drop_drop, List.drop_left]
    exact this

theorem flat_len {size : Nat} : ∀ (us : List Value), (∀ u ∈ us, u.cells.toList.length = size) → (us.flatMap fun u : Value => u.cells.toList).length = us.length * size
  | [], _ => by simp [put_sl, put_rt, putR_sl, putR_rt]
  | u :: us, hl => by
    have hu := hl u (by simp [put_sl, put_rt, putR_sl, putR_rt])
    rw [List.flatMap_cons, List.length_append, hu, flat_len us (fun u hu => hl u (by simp [put_sl, put_rt, putR_sl, putR_rt, hu])), List.length_cons, Nat.add_mul]; omega

theorem inOrder_spec : ∀ (ps : List (Nat × Operand)) (k : Nat) (os : List Operand), inOrder k ps = some os → ps = (List.range os.length).zipWith (fun i o => (k + i, o)) os
  | [], k, os, h => by simp [put_sl, put_rt, putR_sl, putR_rt, inOrder] at h; subst h; rfl
  | (j, o) :: ps, k, os, h => by
    simp only [inOrder] at h
    cases hk : Nat.beq k j with
    | false => rw [hk] at h; cases h
    | true =>
      rw [hk] at h
      obtain ⟨os', h1, rfl⟩ := Option.map_eq_some_iff.1 h
      obtain rfl := Nat.eq_of_beq_eq_true hk
      rw [inOrder_spec ps (k + 1) os' h1]
      simp only [List.length_cons, List.range_succ_eq_map, List.zipWith_cons_cons, Nat.add_zero, List.zipWith_map_left]
      congr 2
      funext i u
      rw [show k + Nat.succ i = k + 1 + i by omega]

variable (m : Mem C s.rt rv F S G w) (hs : ∀ i, RSV w S s.rt rv (s.sl i) (a.tmps.getD i undef)) (hE : EnvTy P E)
include m hs hE

theorem op_buildSlice {n d : Nat} {o : Oper} {t : TypeId} {k : Nat} {parts : Array (Nat × Operand)} (ho : o.op = .buildSlice t k parts) {e : Eff} {l l' : List Nat}
    (h : (op E n d (.buildSlice t k parts)).run s l = some (e, l')) : Does P o a w (Post C s rv w S e) := by
  simp only [op] at h
  obtain ⟨τ, bb, h5, h6⟩ := tyOf_some h
  cases τ with
  | list e0 =>
    simp only at h6
    split at h6
    · rename_i os hos
      cases hk : Nat.beq k os.length && Nat.ble (k * e0.size) 16777216 with
      | false => rw [hk] at h6; exact (fail_some h6).elim
      | true =>
        rw [hk] at h6
        simp only [cond_true] at h6
        rw [Bool.and_eq_true] at hk
        obtain rfl := Nat.eq_of_beq_eq_true hk.1
        have hsmall := Nat.le_of_ble_eq_true hk.2
        obtain ⟨hf, h7⟩ := fresh_some h6
        obtain ⟨vs, l1, h8, h9⟩ := run_bind_some h7
        obtain ⟨⟨xs, tk⟩, l2, h10, h11⟩ := run_bind_some h9
        have := ret_some h11; cases this
        have hvs := opList_sound hs h8
        obtain ⟨n1, n2, n3, Gi, Sl, sp, n5, n6⟩ := layAll_sound m vs _ _ xs tk _ h10 hvs
        simp only [List.length_map] at n3
        obtain ⟨te, hu, hte⟩ := (hE.ok h5).1.slice
        obtain ⟨ie, z, hi⟩ := hte.inf
        obtain ⟨m1, K1⟩ := consume m n1 n2 sp
        have hlen : ∀ u ∈ os.map a.eval, u.cells.toList.length = e0.size := by
          intro u hu
          obtain ⟨i, hi, rfl⟩ := List.mem_iff_getElem.1 hu
          exact rep_len (n5 i (by simpa [put_sl, put_rt, putR_sl, putR_rt, n3] using hi) hi)
        have hpos := e0.size_pos
        let c0 : Array Value := if os.length * e0.size = 0 then #[] else madeCells z.cells (os.length * e0.size)
        have hc0 : c0.size = os.length * e0.size := by
          show (if os.length * e0.size = 0 then #[] else madeCells z.cells (os.length * e0.size)).size = _
          split
          · simp [put_sl, put_rt, putR_sl, putR_rt]; omega
          · rw [size_madeCells]
        have hfill : Instr.fill (fun i => some (i * e0.size, e0.size)) c0 (parts.map fun p => (p.1, a.eval p.2)).toList = some (ovr c0 0 ((os.map a.eval).flatMap fun u : Value => u.cells.toList)) := by
          have hp := inOrder_spec _ 0 os hos
          have := fill_row (os.map a.eval) 0 c0 hlen (by simp [put_sl, put_rt, putR_sl, putR_rt, hc0])
          rw [Array.toList_map, hp]
          simp only [Nat.zero_mul, List.length_map] at this
          rw [← this]
          congr 1
          rw [List.map_zipWith, List.zipWith_map_right]
        have hfl := flat_len (os.map a.eval) hlen
        simp only [List.length_map] at hfl
        have hov : (ovr c0 0 ((os.map a.eval).flatMap fun u : Value => u.cells.toList)).toList = (os.map a.eval).flatMap fun u : Value => u.cells.toList := by
          have h1 := seg_ovr (c := c0) (o := 0) (vs := (os.map a.eval).flatMap fun u : Value => u.cells.toList) (by rw [hc0, hfl]; omega)
          unfold seg at h1
          rw [List.drop_zero, List.take_of_length_le (by simp [put_sl, put_rt, putR_sl, putR_rt, ovr_size, hc0, hfl])] at h1
          exact h1
        have hrun : (Instr.buildSlice t os.length (parts.map fun p => (p.1, a.eval p.2))).run P w = .ok (.slice (some ⟨w.heap.size, 0, none⟩) os.length os.length)
            (w.alloc (.cells (ovr c0 0 ((os.map a.eval).flatMap fun u : Value => u.cells.toList)) te)) := by
          by_cases h0 : os.length = 0
          · have hos0 : os = [] := List.length_eq_zero_iff.1 h0
            have hp0 : parts = #[] := by
              have := inOrder_spec _ 0 os hos
              rw [hos0] at this
              apply Array.ext'; simpa using this
            have hc : ovr c0 0 ((os.map a.eval).flatMap fun u : Value => u.cells.toList) = #[] := by
              apply Array.ext'; rw [hov, hos0]; rfl
            rw [hc, h0, hp0]
            simp [put_sl, put_rt, putR_sl, putR_rt, Instr.buildSlice, run_underlying hu, hte.size, newRow, Instr.fill]
            congr 2
            apply Array.ext'
            simp [put_sl, put_rt, putR_sl, putR_rt]
          · have hne : ¬ os.length * e0.size = 0 := by
              rw [Nat.mul_eq_zero]; omega
            have hsize := hi.size
            refine run_buildSlice (P := P) w t te os.length _ _ ie z hu hi.info hi.zero (by rw [hsize]; omega) (by rw [hsize]; exact hne) ?_
            rw [hsize, ← hfill]
            congr 1
            show madeCells z.cells (os.length * e0.size) = if os.length * e0.size = 0 then #[] else madeCells z.cells (os.length * e0.size)
            rw [if_neg hne]
        have hblk : ∀ {q : Nat}, Own q (w.alloc (.cells (ovr c0 0 ((os.map a.eval).flatMap fun u : Value => u.cells.toList)) te)) w.heap.size (ovr c0 0 ((os.map a.eval).flatMap fun u : Value => u.cells.toList)) := alloc_own
        have hlt : ∀ i b, i < xs.length → Gi i b → b < w.heap.size := fun i b hi' hb => m1.glt b (.inr ⟨i, hi', hb⟩)
        have hrow := row_rep (w := w.alloc (.cells (ovr c0 0 ((os.map a.eval).flatMap fun u : Value => u.cells.toList)) te)) (S := fun b => S b ∨ Sl b) (e := e0) (d := (bsd E d)) (xs := xs) (c := xs.length) (Gi := Gi) hblk (Nat.le_refl _)
          (by rw [ovr_size, hc0, n3]; omega)
          (fun i hi' => by
            have hseg : seg (ovr c0 0 ((os.map a.eval).flatMap fun u : Value => u.cells.toList)) (i * e0.size) e0.size = ((os.map a.eval)[i]'(by simpa [put_sl, put_rt, putR_sl, putR_rt, n3] using hi')).cells.toList := by
              unfold seg
              rw [hov]
              exact flat_seg (os.map a.eval) i hlen (by simpa [put_sl, put_rt, putR_sl, putR_rt, n3] using hi')
            rw [hseg]
            exact rep_frame (fun _ h => h) (fun b hb => alloc_lt b (m1.slt b hb)) (fun b hb => alloc_lt b (hlt i b hi' hb)) (n5 i hi' (by simpa [put_sl, put_rt, putR_sl, putR_rt, n3] using hi')))
          n6 (fun i hi' hb => by have := hlt i _ hi' hb; omega)
        have hfr : (putRs tk s).rt (32 * d) = .none := by
          rw [putRs_other]
          · exact hf
          · intro hin
            obtain ⟨st, hst⟩ := mem_ids.1 hin
            obtain ⟨r, hr, _⟩ := n2 _ _ hst
            rw [hf] at hr; cases hr
        obtain ⟨m2, K2⟩ := newRoot m1 (ver := 0) hfr (w' := w.alloc (.cells (ovr c0 0 ((os.map a.eval).flatMap fun u : Value => u.cells.toList)) te)) (fun b _ => alloc_lt b) (by rw [alloc_size]; omega) alloc_same hrow (by
          rintro b (rfl | ⟨i, hi', hb⟩)
          · exact .inr (Nat.le_refl _)
          · exact .inl (.inr ⟨i, hi', hb⟩))
        have hrt : (putRs ((32 * d, .live ⟨(bsd E d), e0, xs, 0⟩) :: tk) s).rt = fun j => if j = 32 * d then .live ⟨(bsd E d), e0, xs, 0⟩ else (putRs tk s).rt j := by
          have hnin : 32 * d ∉ ids tk := by
            intro hin
            obtain ⟨st, hst⟩ := mem_ids.1 hin
            obtain ⟨r, hr, _⟩ := n2 _ _ hst
            rw [hf] at hr; cases hr
          funext j
          simp only [putRs]
          by_cases hj : j = 32 * d
          · subst hj
            rw [putRs_other tk _ _ hnin]; simp [put_sl, put_rt, putR_sl, putR_rt]
          · by_cases hjt : j ∈ ids tk
            · obtain ⟨st, hst⟩ := mem_ids.1 hjt
              rw [putRs_mem tk _ j st n1 hst, if_neg hj, putRs_mem tk _ j st n1 hst]
            · rw [putRs_other tk _ j hjt, if_neg hj, putRs_other tk _ j hjt]; simp [put_sl, put_rt, putR_sl, putR_rt, hj]
        rw [n3] at m2 K2
        refine .inl ⟨.slice (some ⟨w.heap.size, 0, none⟩) os.length os.length, _, by simp [put_sl, put_rt, putR_sl, putR_rt, execOp, ho, hrun], Post.mk hrt m2 (K1.trans K2) ?_⟩
        simp only [RSV, RAt, if_true]
        exact ⟨Nat.le_refl _, by simp, by simp [put_sl, put_rt, putR_sl, putR_rt, nix]⟩
    · exact (fail_some h6).elim
  | _ => exact (fail_some h6).elim

theorem room_le {k b : Nat} (h : k ≤ room b) : k * b ≤ 140737488355328 := by
  unfold room at h
  exact Nat.le_trans (Nat.mul_le_mul_right _ h) (Nat.div_mul_le_self _ _)

theorem bytes_of {t te : TypeId} {i : TypeInfo} (hu : P.underlying t = some (.slice te)) (hi : P.info? te = some i) : bytesOf P t = i.bytes := by
  simp [put_sl, put_rt, putR_sl, putR_rt, bytesOf, hu, hi]

theorem op_makeSlice {n d : Nat} {o : Oper} {t : TypeId} {x y : Operand} (ho : o.op = .makeSlice t x y) {e : Eff} {l l' : List Nat}
    (h : (op E n d (.makeSlice t x y)).run s l = some (e, l')) : Does P o a w (Post C s rv w S e) := by
  simp only [op] at h
  obtain ⟨τ, bb, h5, h6⟩ := tyOf_some h
  cases τ with
  | list e0 =>
    simp only at h6
    obtain ⟨hf, h7⟩ := fresh_some h6
    obtain ⟨v, l1, h8, h9⟩ := run_bind_some h7
    obtain ⟨k1, m1, rfl, h10⟩ := asInt_some h9
    obtain ⟨v', l2, h11, h12⟩ := run_bind_some h10
    obtain ⟨k2, m2, rfl, h13⟩ := asInt_some h12
    obtain ⟨h14, h15⟩ := chk_some h13
    have := ret_some h15; cases this
    have hx := rsv_int.1 (opd_sound hs h8)
    have hy := rsv_int.1 (opd_sound hs h11)
    obtain ⟨te, hu, hte⟩ := (hE.ok h5).1.slice
    obtain ⟨ie, z, hi⟩ := hte.inf
    have hbb := (hE.ok h5).2
    rw [bytes_of m hs hE hu hi.info] at hbb
    have hcond : 0 ≤ m1 ∧ m1 ≤ m2 ∧ m2.toNat ≤ room bb := by
      cases hso : sameOpd x y with
      | true =>
        rw [hso] at h14
        simp [put_sl, put_rt, putR_sl, putR_rt] at h14
        have hxy : x = y := by
          cases x <;> cases y <;> simp [put_sl, put_rt, putR_sl, putR_rt, sameOpd] at hso
          rw [hso]
        subst hxy
        rw [hx] at hy
        obtain rfl : m1 = m2 := by injection hy
        exact ⟨h14.1, Int.le_refl _, by omega⟩
      | false =>
        rw [hso] at h14
        simp [put_sl, put_rt, putR_sl, putR_rt] at h14
        exact ⟨h14.1, h14.2.1, by omega⟩
    obtain ⟨c1, c2, c3⟩ := hcond
    have hroom := room_le m hs hE c3
    subst hbb
    have hpos := e0.size_pos
    have hzl : z.cells.size = e0.size := by
      have := rep_len (zero_rep (w := w) (S := S) (d := 0) hi.ok)
      simpa using this
    have hbytes : (ie.bytes : Int) * m2 ≤ 281474976710656 := by
      have h1 : (m2.toNat : Int) = m2 := Int.toNat_of_nonneg (by omega)
      rw [← h1, ← Int.natCast_mul, Nat.mul_comm]; omega
    have h63 : m2 ≤ 9223372036854775807 := by
      have h1 : room ie.bytes ≤ 140737488355328 := Nat.div_le_self _ _
      have h2 : m2.toNat ≤ 140737488355328 := Nat.le_trans c3 h1
      omega
    have hrun := run_make (P := P) w t te ie z hu hi.info hi.zero k1 k2 m1 m2 c1 c2 hbytes h63
    rw [hi.size] at hrun
    have hlen : (zeros e0 m1.toNat).length = m1.toNat := by simp [put_sl, put_rt, putR_sl, putR_rt, zeros]
    have hrow := row_rep (w := w.alloc (.cells (madeCells z.cells (m2.toNat * e0.size)) te)) (S := S) (e := e0) (d := DEEP) (xs := zeros e0 m1.toNat) (c := m2.toNat) (Gi := fun _ _ => False) alloc_own
      (by rw [hlen]; omega) (by rw [size_madeCells]; omega)
      (fun i hi' => by
        rw [hlen] at hi'
        have : seg (madeCells z.cells (m2.toNat * e0.size)) (i * e0.size) e0.size = z.cells.toList := made_seg hzl hpos (by omega)
        rw [this]
        simp only [zeros, List.getElem_replicate]
        exact zero_rep hi.ok)
      (fun i j b _ _ h => h.elim) (fun i _ h => h)
    obtain ⟨m3, K3⟩ := newRoot m (ver := 0) hf (w' := w.alloc (.cells (madeCells z.cells (m2.toNat * e0.size)) te)) (fun b _ => alloc_lt b) (by rw [alloc_size]; omega) alloc_same hrow (by
      rintro b (rfl | ⟨i, _, hb⟩)
      · exact .inr (Nat.le_refl _)
      · exact hb.elim)
    rw [hlen] at m3 K3
    refine .inl ⟨.slice (some ⟨w.heap.size, 0, none⟩) m1.toNat m2.toNat, _, by simp [put_sl, put_rt, putR_sl, putR_rt, execOp, ho, hx, hy, hrun], Post.mk (putRs_one _ _ _) m3 K3 ?_⟩
    simp only [RSV, RAt, updRt, if_true]
    exact ⟨Nat.le_refl _, by simp, by simp [put_sl, put_rt, putR_sl, putR_rt, nix]⟩
  | _ => exact (fail_some h6).elim
end
end Go.Abs
set_option linter.unusedVariables false
set_option linter.unusedSimpArgs false
set_option linter.unnecessarySimpa false
set_option linter.unusedSectionVars false
namespace Go.Abs
open Go
section
variable {C : Ctx} {s : St} {rv : Nat → Value} {F : Nat → Fp} {S G : Fp} {w : World} {P : Program} {E : Env} {a : Act}

/-- A slice, opened. -/
theorem list_open {D : Nat} {e : Ty} {xs : List e.den} {v : Value} {F : Fp} (h : rep w S (.list e) D xs [v] F) :
    (xs = [] ∧ (∃ A, v = .slice A 0 0) ∧ ∀ b, ¬ F b) ∨ ∃ (b o c : Nat) (arr : Array Value) (Gi : Nat → Fp), v = .slice (some ⟨b, o, none⟩) xs.length c ∧ xs.length ≤ c ∧ o + c * e.size ≤ arr.size ∧ Has w b arr ∧
      (∀ i (h : i < xs.length), rep w S e (D - 1) xs[i] (seg arr (o + i * e.size) e.size) (Gi i)) ∧ (∀ i j b, i < xs.length → j < xs.length → Gi i b → Gi j b → i = j) ∧
      (0 < D → Own e.mk w b arr ∧ (∀ i, i < xs.length → ¬ Gi i b) ∧ ∀ b', F b' ↔ b' = b ∨ ∃ i, i < xs.length ∧ Gi i b') ∧ (D = 0 → S b ∧ (∀ b, ¬ F b) ∧ ∀ i b, i < xs.length → ¬ Gi i b) := by
  rcases h with ⟨h1, h2, h3⟩ | ⟨b, o, c, arr, G, h1, h2, h3, ⟨Gi, q1, q2, q3⟩, h5⟩
  · exact .inl ⟨h2, by simpa using h1, h3⟩
  · refine .inr ⟨b, o, c, arr, Gi, by simpa using h1, h2, h3, ?_, q1, q2, ?_, ?_⟩
    · rcases h5 with h5 | h5
      · exact h5.2.1
      · exact h5.2.1.has
    · intro hD
      obtain ⟨_, g1, g2, g3⟩ := h5.resolve_left (by omega)
      exact ⟨g1, fun i hi hb => g2 ((q3 b).2 ⟨i, hi, hb⟩), fun b' => by rw [g3, q3]⟩
    · rintro rfl
      obtain ⟨_, g1, g2, g3⟩ := h5.resolve_right (fun h => absurd h.1 (by omega))
      exact ⟨g2, g3, fun i b hi => rep_none (.inl rfl) (q1 i hi) b⟩

theorem rows_one {e : Ty} {D : Nat} {S : Fp} {xs : List e.den} {arr : Array Value} {o : Nat} {Gi : Nat → Fp} (h : ∀ i (h : i < xs.length), rep w S e D xs[i] (seg arr (o + i * e.size) e.size) (Gi i)) :
    ∀ u ∈ seg arr o (xs.length * e.size), u.oneCell' = true := by
  intro u hu
  obtain ⟨j, hj, rfl⟩ := List.mem_iff_getElem.1 hu
  have hpos := e.size_pos
  have hj0 : j < xs.length * e.size := by
    have := hj
    simp only [seg, List.length_take, List.length_drop] at this
    omega
  have hq : j / e.size < xs.length := Nat.div_lt_of_lt_mul (by rwa [Nat.mul_comm])
  have hm : j % e.size < e.size := Nat.mod_lt _ hpos
  have hde : j / e.size * e.size + j % e.size = j := Nat.div_add_mod' j e.size
  refine rep_one (h _ hq) _ ?_
  have e1 : (seg arr (o + j / e.size * e.size) e.size)[j % e.size]? = (seg arr o (xs.length * e.size))[j]? := by
    rw [seg_get, seg_get, if_pos hm, if_pos hj0]
    congr 1; omega
  rw [List.getElem?_eq_getElem hj] at e1
  exact List.mem_of_getElem? e1

/-- The run of an append. -/
theorem append_run {t te ty : TypeId} {e : Ty} {nx ny : Nat} {v u : Value} (hu : P.underlying t = some (.slice te)) (ht : TyOk P te e)
    (hx : (nx = 0 ∧ ∃ A, v = .slice A 0 0) ∨ ∃ b o c arr, v = .slice (some ⟨b, o, none⟩) nx c ∧ Own e.mk w b arr ∧ nx ≤ c ∧ o + c * e.size ≤ arr.size)
    (hy : (ny = 0 ∧ ∃ A, u = .slice A 0 0) ∨ ∃ b o c arr, u = .slice (some ⟨b, o, none⟩) ny c ∧ Has w b arr ∧ o + ny * e.size ≤ arr.size ∧ ∀ q ∈ seg arr o (ny * e.size), q.oneCell' = true)
    (hroom : nx + ny ≤ room (bytesOf P t)) :
    ∃ v' w', (Builtin.append_ #[t, t] ty #[v, u]).run P w = .ok v' w' ∧ Same w w' ∧ w.heap.size ≤ w'.heap.size ∧
      (∀ k, k < w.heap.size → (∀ o c n, 0 < c → v ≠ .slice (some ⟨k, o, none⟩) n c) → w'.heap[k]? = w.heap[k]?) ∧
      ((nx + ny = 0 ∧ (∃ A, v' = .slice A 0 0) ∧ ∃ A, v = .slice A 0 0) ∨ ∃ b' o' c' arr', v' = .slice (some ⟨b', o', none⟩) (nx + ny) c' ∧ Own e.mk w' b' arr' ∧ nx + ny ≤ c' ∧ o' + c' * e.size ≤ arr'.size ∧
        ((∃ o c n, 0 < c ∧ v = .slice (some ⟨b', o, none⟩) n c) ∨ w.heap.size ≤ b') ∧
        (∀ bx ox cx arrx, v = .slice (some ⟨bx, ox, none⟩) nx cx → Own e.mk w bx arrx → ∀ i, i < nx → seg arr' (o' + i * e.size) e.size = seg arrx (ox + i * e.size) e.size) ∧
        (∀ by_ oy cy arry, u = .slice (some ⟨by_, oy, none⟩) ny cy → Has w by_ arry → ∀ i, i < ny → seg arr' (o' + (nx + i) * e.size) e.size = seg arry (oy + i * e.size) e.size)) := by
  obtain ⟨ie, z, hi⟩ := ht.inf
  have hpos := e.size_pos
  have hzl : z.cells.size = e.size := by
    have := rep_len (zero_rep (w := w) (S := fun _ => False) (d := 0) hi.ok)
    simpa using this
  have hbb : bytesOf P t = ie.bytes := by simp [put_sl, put_rt, putR_sl, putR_rt, bytesOf, hu, hi.info]
  rw [hbb] at hroom
  have hroom2 : (nx + ny) * ie.bytes ≤ 140737488355328 := by
    unfold room at hroom
    exact Nat.le_trans (Nat.mul_le_mul_right _ hroom) (Nat.div_mul_le_self _ _)
  have h63 : nx + ny ≤ 140737488355328 := Nat.le_trans hroom (Nat.div_le_self _ _)
  -- what is appended
  have hsrc : ∃ news, Src P ie.size t u ny news w ∧ ∀ by_ oy cy arry, u = .slice (some ⟨by_, oy, none⟩) ny cy → Has w by_ arry → news = seg arry oy (ny * e.size) := by
    rcases hy with ⟨rfl, A, rfl⟩ | ⟨b, o, c, arr, rfl, h1, h2, h3⟩
    · cases A with
      | none => exact ⟨[], Src.ofNil w hu 0, fun _ _ _ _ h => by cases h⟩
      | some A =>
        refine ⟨[], Src.ofSlice w hu A 0 0 [] (by simp [put_sl, put_rt, putR_sl, putR_rt]) (fun j q hj => by simp [put_sl, put_rt, putR_sl, putR_rt] at hj) (fun _ h => by simp [put_sl, put_rt, putR_sl, putR_rt] at h), fun by_ oy cy arry _ _ => ?_⟩
        unfold seg; simp [put_sl, put_rt, putR_sl, putR_rt]
    · refine ⟨seg arr o (ny * e.size), Src.ofSlice w hu ⟨b, o, none⟩ ny c _ (by rw [seg_len h2, hi.size]) (fun j q hj => ?_) h3, fun b' o' c' arr' he hb' => ?_⟩
      · rw [add0, h1.cell]
        rw [seg_get] at hj
        split at hj
        · exact hj
        · cases hj
      · cases he
        rw [h1.eq hb']
  obtain ⟨news, hs, hnews⟩ := hsrc
  have hnl := hs.newsLen
  rw [hi.size] at hnl
  have hx2 : (nx = 0 ∧ ∃ A, v = .slice A 0 0) ∨ ∃ b o c arr, v = .slice (some ⟨b, o, none⟩) nx c ∧ 0 < c ∧ Own e.mk w b arr ∧ nx ≤ c ∧ o + c * e.size ≤ arr.size := by
    rcases hx with h | ⟨b, o, c, arr, h1, h2, h3, h4⟩
    · exact .inl h
    · cases c with
      | zero =>
        have : nx = 0 := by omega
        subst this
        exact .inl ⟨rfl, _, h1⟩
      | succ c => exact .inr ⟨b, o, c + 1, arr, h1, Nat.succ_pos _, h2, h3, h4⟩
  rcases hx2 with ⟨rfl, A, rfl⟩ | ⟨b, o, c, arr, rfl, hc0, hb, hc, ha⟩
  · -- nil
    by_cases hn0 : ny = 0
    · subst hn0
      have hnil : news = [] := List.length_eq_zero_iff.1 (by omega)
      subst hnil
      exact ⟨.slice A 0 0, w, run_append_nothing w t t ty te ie hu hi.info A 0 0 (Nat.le_refl _) u hs, Same.refl w, Nat.le_refl _, fun _ _ _ => rfl, .inl ⟨rfl, ⟨A, rfl⟩, A, rfl⟩⟩
    · have hfit : Builtin.nextslicecap (0 + ny) 0 * ie.bytes ≤ 281474976710656 := growslice_fits (by omega) hroom2
      have hrun := run_append_grow_src (P := P) w t t ty te ie z hu hi.info hi.zero A 0 0 [] (by
        cases A with
        | none => simp [put_sl, put_rt, putR_sl, putR_rt, Builtin.firstCells]
        | some A =>
          have hl : (loadCells A 0).run P w.drew = .ok #[] w.drew := run_loadCells_list (P := P) w.drew A [] (fun j v hj => by simp [put_sl, put_rt, putR_sl, putR_rt] at hj)
          simpa [put_sl, put_rt, putR_sl, putR_rt, Builtin.firstCells] using hl) u ny news hs (by omega) (by omega) hfit
      have hcap : 0 + ny ≤ grownCap w (0 + ny) 0 te := by
        unfold grownCap Question.cut
        exact Nat.le_add_right _ _
      generalize grownCap w (0 + ny) 0 te = cap at hrun hcap
      refine ⟨_, _, hrun, ⟨rfl, rfl, rfl⟩, by rw [alloc_size]; exact Nat.le_succ _, fun k hk _ => alloc_lt (w := w.drew) k hk, .inr ⟨w.heap.size, 0, cap, _, rfl, alloc_own (w := w.drew), hcap, ?_, .inr (Nat.le_refl _), fun _ _ _ _ h _ i hi => absurd hi (Nat.not_lt_zero i), fun by_ oy cy arry he hbb' i hi' => ?_⟩⟩
      · simp only [List.nil_append, Array.size_append, List.size_toArray, Builtin.zeroCells, Array.size_map, Array.size_range, hzl, hnl]
        rw [← Nat.add_mul, Nat.zero_add, Nat.zero_add] at *
        rw [show ny + (cap - ny) = cap by omega]; exact Nat.le_refl _
      · have hsz2 : (i + 1) * e.size ≤ ny * e.size := Nat.mul_le_mul_right _ (by omega)
        rw [Nat.add_mul] at hsz2
        have hne := hnews by_ oy cy arry he hbb'
        apply seg_ext
        intro q hq
        simp only [Nat.zero_add, List.nil_append]
        rw [Array.getElem?_append_left (by simp [put_sl, put_rt, putR_sl, putR_rt, hnl]; omega)]
        have : (news.toArray)[i * e.size + q]? = (seg arry oy (ny * e.size))[i * e.size + q]? := by rw [← hne]; simp [put_sl, put_rt, putR_sl, putR_rt]
        rw [this, seg_get, if_pos (by omega)]
        congr 1; omega
  · by_cases hfit0 : nx + ny ≤ c
    · -- there is room
      have hbase : o + nx * e.size + news.length ≤ arr.size := by
        have : (nx + ny) * e.size ≤ c * e.size := Nat.mul_le_mul_right _ hfit0
        rw [Nat.add_mul] at this; omega
      have hrun := run_append_room_src (P := P) w t t ty te ie hu hi.info b o nx c u ny news hs hfit0
        (fun j hj => by rw [hi.size, hb.has.cell, Array.getElem?_eq_getElem (by omega)]; rfl) (fun j hj => by rw [hi.size]; exact hb.frozen (by omega))
      rw [hi.size] at hrun
      obtain ⟨g1, g2, g3, g4⟩ := setCells_own (b := b) news w (o + nx * e.size) arr hb
      refine ⟨_, _, hrun, g4, by rw [g2]; exact Nat.le_refl _, fun k hk hne => g3 k (by rintro rfl; exact hne o c nx hc0 rfl), .inr ⟨b, o, c, _, rfl, g1, hfit0, by rw [ovr_size]; exact ha, .inl ⟨o, c, nx, hc0, rfl⟩, fun bx ox cx arrx he hbx i hi' => ?_, fun by_ oy cy arry he hbb' i hi' => ?_⟩⟩
      · cases he
        rw [hb.has.eq hbx.has]
        have hsz2 : (i + 1) * e.size ≤ nx * e.size := Nat.mul_le_mul_right _ (by omega)
        rw [Nat.add_mul] at hsz2
        rw [hb.has.eq hbx.has] at hbase
        exact seg_ext fun q hq => ovr_other hbase _ (by omega)
      · have hsz2 : (i + 1) * e.size ≤ ny * e.size := Nat.mul_le_mul_right _ (by omega)
        rw [Nat.add_mul] at hsz2
        have hne := hnews by_ oy cy arry he hbb'
        apply seg_ext
        intro q hq
        rw [ovr_get _ _ _ _ hbase, if_pos (by rw [hnl, Nat.add_mul]; omega), hne, seg_get, if_pos (by rw [Nat.add_mul]; omega)]
        congr 1; rw [Nat.add_mul]; omega
    · -- there is none
      have hfit : Builtin.nextslicecap (nx + ny) c * ie.bytes ≤ 281474976710656 := growslice_fits (by omega) hroom2
      have hol : o + nx * e.size ≤ arr.size := by
        have : nx * e.size ≤ c * e.size := Nat.mul_le_mul_right _ hc
        omega
      have hold : (Builtin.firstCells ie.size nx (.slice (some ⟨b, o, none⟩) nx c)).run P w.drew = .ok (seg arr o (nx * e.size)).toArray w.drew := by
        simp only [Builtin.firstCells, hi.size]
        exact run_load_seg (w := w.drew) (c := arr) hb.has hol
      have hrun := run_append_grow_src (P := P) w t t ty te ie z hu hi.info hi.zero (some ⟨b, o, none⟩) nx c _ hold u ny news hs (by omega) (by omega) hfit
      have hcap : nx + ny ≤ grownCap w (nx + ny) c te := by
        unfold grownCap Question.cut
        exact Nat.le_add_right _ _
      generalize grownCap w (nx + ny) c te = cap at hrun hcap
      have hsl := seg_len hol
      refine ⟨_, _, hrun, ⟨rfl, rfl, rfl⟩, by rw [alloc_size]; exact Nat.le_succ _, fun k hk _ => alloc_lt (w := w.drew) k hk, .inr ⟨w.heap.size, 0, cap, _, rfl, alloc_own (w := w.drew), hcap, ?_, .inr (Nat.le_refl _), fun bx ox cx arrx he hbx i hi' => ?_, fun by_ oy cy arry he hbb' i hi' => ?_⟩⟩
      · simp only [Array.size_append, List.size_toArray, List.length_append, Builtin.zeroCells, Array.size_map, Array.size_range, hzl, hnl, hsl]
        rw [← Nat.add_mul, ← Nat.add_mul, show nx + ny + (cap - (nx + ny)) = cap by omega]; omega
      · cases he
        rw [← hb.has.eq hbx.has]
        have hsz2 : (i + 1) * e.size ≤ nx * e.size := Nat.mul_le_mul_right _ (by omega)
        rw [Nat.add_mul] at hsz2
        apply seg_ext
        intro q hq
        rw [Array.getElem?_append_left (by simp [put_sl, put_rt, putR_sl, putR_rt, hsl, hnl]; omega)]
        have : (((seg arr o (nx * e.size)) ++ news).toArray)[0 + i * e.size + q]? = (seg arr o (nx * e.size))[0 + i * e.size + q]? := by
          simp only [List.getElem?_toArray]
          rw [List.getElem?_append_left (by omega)]
        rw [this, seg_get, if_pos (by omega)]
        congr 1; omega
      · have hsz2 : (i + 1) * e.size ≤ ny * e.size := Nat.mul_le_mul_right _ (by omega)
        rw [Nat.add_mul] at hsz2
        have hne := hnews by_ oy cy arry he hbb'
        apply seg_ext
        intro q hq
        rw [Array.getElem?_append_left (by simp [put_sl, put_rt, putR_sl, putR_rt, hsl, hnl, Nat.add_mul]; omega)]
        have : (((seg arr o (nx * e.size)) ++ news).toArray)[0 + (nx + i) * e.size + q]? = news[i * e.size + q]? := by
          simp only [List.getElem?_toArray]
          rw [List.getElem?_append_right (by rw [Nat.add_mul]; omega), hsl]
          congr 1; rw [Nat.add_mul]; omega
        rw [this, hne, seg_get, if_pos (by omega)]
        congr 1; omega

/-- elements, owned to a lesser depth -/
theorem lower_rows {e : Ty} {D D' : Nat} {xs : List e.den} {arr : Array Value} {o : Nat} {Gi : Nat → Fp} (h : ∀ i (h : i < xs.length), rep w S e D xs[i] (seg arr (o + i * e.size) e.size) (Gi i))
    (hd : ∀ i j b, i < xs.length → j < xs.length → Gi i b → Gi j b → i = j) (hD : e.flat = true ∨ D' ≤ D) :
    ∃ (Gs : Nat → Fp) (Sx : Fp), (∀ i b, i < xs.length → Gs i b → Gi i b) ∧ (∀ b, Sx b → ∃ i, i < xs.length ∧ Gi i b) ∧ (∀ i b, i < xs.length → Gs i b → ¬ Sx b) ∧
      ∀ i (h : i < xs.length), rep w (fun b => S b ∨ Sx b) e D' xs[i] (seg arr (o + i * e.size) e.size) (Gs i) := by
  rcases hD with hD | hD
  · exact ⟨Gi, fun _ => False, fun _ _ _ h => h, fun _ h => h.elim, fun _ _ _ _ h => h, fun i hi => rep_flat hD (h i hi)⟩
  · have key : ∀ i, ∃ G', (i < xs.length → ∀ b, G' b → Gi i b) ∧ ∀ hi : i < xs.length, rep w (fun b => S b ∨ (Gi i b ∧ ¬ G' b)) e D' xs[i] (seg arr (o + i * e.size) e.size) G' := by
      intro i
      by_cases hi : i < xs.length
      · obtain ⟨G', p1, p2⟩ := rep_lower (h i hi) hD
        exact ⟨G', fun _ => p1, fun _ => p2⟩
      · exact ⟨fun _ => False, fun h => absurd h hi, fun h => absurd h hi⟩
    obtain ⟨Gs, hGs⟩ := Classical.axiomOfChoice key
    refine ⟨Gs, fun b => ∃ i, i < xs.length ∧ Gi i b ∧ ¬ Gs i b, fun i b hi hb => (hGs i).1 hi b hb, fun b ⟨i, hi, hb, _⟩ => ⟨i, hi, hb⟩, ?_, fun i hi => rep_mono (fun b hb => hb.imp (fun h => h) fun hb => ⟨i, hi, hb⟩) ((hGs i).2 hi)⟩
    rintro i b hi hb ⟨j, hj, hc, hn⟩
    have := hd i j b hi hj ((hGs i).1 hi b hb) hc
    subst this
    exact hn hb

def Rows (w : World) (S : Fp) (F : Nat → Fp) (e : Ty) (D : Nat) (xs : List e.den) (v : Value) (tk : RL) (own : Prop) : Prop :=
  (xs = [] ∧ ∃ A, v = .slice A 0 0) ∨ ∃ (b o c : Nat) (arr : Array Value) (Gi : Nat → Fp), v = .slice (some ⟨b, o, none⟩) xs.length c ∧ xs.length ≤ c ∧ o + c * e.size ≤ arr.size ∧ Has w b arr ∧
    (∀ i (h : i < xs.length), rep w S e D xs[i] (seg arr (o + i * e.size) e.size) (Gi i)) ∧ (∀ i j b, i < xs.length → j < xs.length → Gi i b → Gi j b → i = j) ∧
    (∀ i b, i < xs.length → Gi i b → taken tk F b) ∧ (own → Own e.mk w b arr ∧ taken tk F b ∧ ∀ i, i < xs.length → ¬ Gi i b)

theorem appBase_sound (m : Mem C s.rt rv F S G w) {e : Ty} {sv : SV} {l l' : List Nat} {dd : Nat} {xs : List e.den} {tk : RL} {v : Value}
    {J : Nat} (h : (appBase J e sv).run s l = some ((dd, xs, tk), l')) (hv : RSV w S s.rt rv sv v) :
    ((ids tk).Nodup ∧ Takes s.rt tk ∧ (∀ id st, (id, st) ∈ tk → st = .dead) ∧ Rows w S F e dd xs v tk True) ∨
    ∃ id p r b o, s.rt J = .none ∧ s.rt id = .live r ∧ nix p = 1 ∧ 1 ≤ r.d ∧ getP (.list r.τ) r.xs p = some ⟨.list e, xs⟩ ∧ dd = r.d - 1 ∧ tk = [(J, .dead), (id, .hole r p)] ∧
      walkV w (rv id) r.τ p = some (.list e, b, o) ∧ w.cell? ⟨b, o, none⟩ = some v := by
  unfold appBase at h
  split at h
  · have := ret_some h; cases this
    simp only [RSV] at hv
    exact .inl ⟨by simp [put_sl, put_rt, putR_sl, putR_rt, ids], (fun _ _ h => by cases h), (fun _ _ h => by cases h), .inl ⟨rfl, hv⟩⟩
  · rename_i id ver
    simp only [liveS, Rd.run] at h
    simp only [RSV, RAt] at hv
    cases hr : s.rt id <;> simp only [hr] at h <;> try exact (fail_some h).elim
    rename_i r
    rw [hr] at hv
    have hc : (Nat.beq (nix []) 0 || Nat.beq r.ver ver) = true := rfl
    rw [hc] at h
    simp only [cond_true] at h
    split at h
    · rename_i z hz
      have := ret_some h; cases this
      obtain ⟨rd, rτ, rxs, rver⟩ := r
      obtain ⟨q, hq⟩ := toTy_list hz
      simp only at q hq
      subst q
      subst hq
      obtain rfl := (hv.2.1 rfl).2
      have h0 := m.live id _ hr
      refine .inl ⟨by simp [put_sl, put_rt, putR_sl, putR_rt, ids], ?_, (fun i st hi => by simp [put_sl, put_rt, putR_sl, putR_rt] at hi; exact hi.2), ?_⟩
      · intro i st hi
        simp [put_sl, put_rt, putR_sl, putR_rt] at hi
        obtain ⟨rfl, rfl⟩ := hi
        exact ⟨_, hr, .inl rfl⟩
      · rcases list_open h0 with ⟨h1, h2, _⟩ | ⟨b, o, c, arr, Gi, h1, h2, h3, h4, h5, h6, h7, _⟩
        · exact .inl ⟨h1, h2⟩
        · obtain ⟨g1, g2, g3⟩ := h7 (by simp [put_sl, put_rt, putR_sl, putR_rt])
          exact .inr ⟨b, o, c, arr, Gi, h1, h2, h3, h4, h5, h6, fun i b' hi hb => ⟨id, .dead, List.mem_singleton.2 rfl, (g3 b').2 (.inr ⟨i, hi, hb⟩)⟩,
            fun _ => ⟨g1, ⟨id, .dead, List.mem_singleton.2 rfl, (g3 b).2 (.inl rfl)⟩, g2⟩⟩
    · exact (fail_some h).elim
  · rename_i id ver p hp
    obtain ⟨hJ, h⟩ := fresh_some h
    simp only [liveS, Rd.run] at h
    simp only [RSV, RAt] at hv
    cases hr : s.rt id <;> simp only [hr] at h <;> try exact (fail_some h).elim
    rename_i r
    rw [hr] at hv
    cases hc : Nat.beq (nix p) 0 || Nat.beq r.ver ver with
    | false => rw [hc] at h; exact (fail_some h).elim
    | true =>
      rw [hc] at h
      simp only [cond_true] at h
      split at h
      · rename_i y hy
        split at h
        · rename_i ys hys
          cases hd : Nat.beq (nix p) 1 && Nat.ble 1 r.d with
          | false => rw [hd] at h; exact (fail_some h).elim
          | true =>
            rw [hd] at h
            have := ret_some h; cases this
            have e' := toTy_some hys
            subst e'
            rw [Bool.and_eq_true] at hd
            have hn1 := Nat.eq_of_beq_eq_true hd.1
            have hd1 := Nat.le_of_ble_eq_true hd.2
            have hver : r.ver = ver := by
              rcases Bool.or_eq_true_iff.1 hc with hc | hc
              · have := Nat.eq_of_beq_eq_true hc; omega
              · exact Nat.eq_of_beq_eq_true hc
            obtain ⟨hn, e2, b, o, hw, hcell⟩ := hv.2.2 (by omega) hver
            obtain ⟨y1, hget, _⟩ := focV (m.live id r hr) hw (by omega)
            rw [hy] at hget
            cases hget
            exact .inr ⟨id, p, r, b, o, hJ, hr, hn1, hd1, hy, rfl, rfl, hw, hcell⟩
        · exact (fail_some h).elim
      · exact (fail_some h).elim
  · exact (fail_some h).elim

theorem rows_of_shared {e : Ty} {D : Nat} {ys : List e.den} {v : Value} {S' : Fp} {tk : RL} (h : rep w S' (.list e) 0 ys [v] (fun _ => False)) (hS : e.flat = true ∨ (S' = S ∧ D = 0)) : Rows w S F e D ys v tk False := by
  rcases list_open h with ⟨h1, h2, _⟩ | ⟨b, o, c, arr, Gi, h1, h2, h3, h4, h5, h6, _, h8⟩
  · exact .inl ⟨h1, h2⟩
  · obtain ⟨_, _, g3⟩ := h8 rfl
    refine .inr ⟨b, o, c, arr, Gi, h1, h2, h3, h4, fun i hi => ?_, h6, fun i b' hi hb => absurd hb (g3 i b' hi), fun h => h.elim⟩
    rcases hS with hS | ⟨rfl, rfl⟩
    · exact rep_flat hS (h5 i hi)
    · exact h5 i hi

theorem appSrc_sound (m : Mem C s.rt rv F S G w) {e : Ty} {sv : SV} {l l' : List Nat} {dd : Nat} {xs : List e.den} {tk : RL} {v : Value}
    (h : (appSrc e sv).run s l = some ((dd, xs, tk), l')) (hv : RSV w S s.rt rv sv v) :
    (ids tk).Nodup ∧ Takes s.rt tk ∧ (∀ id st, (id, st) ∈ tk → st = .dead) ∧ Rows w S F e dd xs v tk False := by
  unfold appSrc at h
  split at h
  · have := ret_some h; cases this
    simp only [RSV] at hv
    exact ⟨by simp [put_sl, put_rt, putR_sl, putR_rt, ids], (fun _ _ h => by cases h), (fun _ _ h => by cases h), .inl ⟨rfl, hv⟩⟩
  · rename_i σ z
    split at h
    · rename_i ys hy
      have := ret_some h; cases this
      have e' := toTy_some hy
      cases e'
      simp only [RSV] at hv
      obtain ⟨cs, g1, rfl⟩ := hv
      have hl := rep_len g1
      match cs, hl with
      | [c], _ => exact ⟨by simp [put_sl, put_rt, putR_sl, putR_rt, ids], (fun _ _ h => by cases h), (fun _ _ h => by cases h), rows_of_shared g1 (.inr ⟨rfl, rfl⟩)⟩
    · exact (fail_some h).elim
  · rename_i id ver p
    cases hfl : e.flat with
    | true =>
      rw [hfl] at h
      simp only [cond_true] at h
      obtain ⟨z, l1, h1, h2⟩ := run_bind_some h
      split at h2
      · rename_i ys hy
        have := ret_some h2; cases this
        have e' := toTy_some hy
        subst e'
        obtain ⟨A, c, _, Fx, _, hrep⟩ := content_list m h1 hv
        exact ⟨by simp [put_sl, put_rt, putR_sl, putR_rt, ids], (fun _ _ h => by cases h), (fun _ _ h => by cases h), rows_of_shared hrep (.inl hfl)⟩
      · exact (fail_some h2).elim
    | false =>
      rw [hfl] at h
      simp only [cond_false] at h
      split at h
      · simp only [Rd.run] at h
        simp only [RSV, RAt] at hv
        cases hr : s.rt id <;> simp only [hr] at h <;> try exact (fail_some h).elim
        · rename_i τ zs
          rw [hr] at hv
          split at h
          · rename_i ys hy
            have := ret_some h; cases this
            obtain ⟨q, hq⟩ := toTy_list hy
            subst q
            subst hq
            obtain rfl := hv trivial
            exact ⟨by simp [put_sl, put_rt, putR_sl, putR_rt, ids], (fun _ _ h => by cases h), (fun _ _ h => by cases h), rows_of_shared (m.frz id _ _ hr) (.inr ⟨rfl, rfl⟩)⟩
          · exact (fail_some h).elim
        · rename_i r
          rw [hr] at hv
          split at h
          · rename_i ys hy
            have := ret_some h; cases this
            obtain ⟨rd, rτ, rxs, rver⟩ := r
            obtain ⟨q, hq⟩ := toTy_list hy
            simp only at q hq
            subst q
            subst hq
            obtain rfl := (hv.2.1 rfl).2
            have h0 := m.live id _ hr
            refine ⟨by simp [put_sl, put_rt, putR_sl, putR_rt, ids], ?_, (fun i st hi => by simp [put_sl, put_rt, putR_sl, putR_rt] at hi; exact hi.2), ?_⟩
            · intro i st hi
              simp [put_sl, put_rt, putR_sl, putR_rt] at hi
              obtain ⟨rfl, rfl⟩ := hi
              exact ⟨_, hr, .inl rfl⟩
            · rcases list_open h0 with ⟨h1, h2, _⟩ | ⟨b, o, c, arr, Gi, h1, h2, h3, h4, h5, h6, h7, _⟩
              · exact .inl ⟨h1, h2⟩
              · obtain ⟨g1, g2, g3⟩ := h7 (by simp [put_sl, put_rt, putR_sl, putR_rt])
                exact .inr ⟨b, o, c, arr, Gi, h1, h2, h3, h4, h5, h6, fun i b' hi hb => ⟨id, .dead, List.mem_singleton.2 rfl, (g3 b').2 (.inr ⟨i, hi, hb⟩)⟩, fun h => h.elim⟩
          · exact (fail_some h).elim
      · exact (fail_some h).elim
  · exact (fail_some h).elim

/-- a table of roots, one more at the head -/
theorem putRs_head {tk : RL} {id : Nat} {x : RSt} (hn : (ids tk).Nodup) (ht : Takes s.rt tk) (hf : s.rt id = .none) :
    (putRs ((id, x) :: tk) s).rt = (fun j => if j = id then x else (putRs tk s).rt j) ∧ (putRs tk s).rt id = .none := by
  have hnin : id ∉ ids tk := by
    intro hin
    obtain ⟨st, hst⟩ := mem_ids.1 hin
    obtain ⟨r, hr, _⟩ := ht _ _ hst
    rw [hf] at hr; cases hr
  refine ⟨?_, by rw [putRs_other tk s id hnin]; exact hf⟩
  funext j
  simp only [putRs]
  by_cases hj : j = id
  · subst hj
    rw [putRs_other tk _ _ hnin]; simp [put_sl, put_rt, putR_sl, putR_rt]
  · by_cases hjt : j ∈ ids tk
    · obtain ⟨st, hst⟩ := mem_ids.1 hjt
      rw [putRs_mem tk _ j st hn hst, if_neg hj, putRs_mem tk _ j st hn hst]
    · rw [putRs_other tk _ j hjt, if_neg hj, putRs_other tk _ j hjt]; simp [put_sl, put_rt, putR_sl, putR_rt, hj]

theorem appDepth_ok {e : Ty} {a b : Nat} : e.flat = true ∨ appDepth e a b ≤ a ∧ appDepth e a b ≤ b := by
  unfold appDepth
  cases e.flat with
  | true => exact .inl rfl
  | false =>
    right
    cases h : Nat.ble a b with
    | true => simp [put_sl, put_rt, putR_sl, putR_rt]; exact Nat.le_of_ble_eq_true h
    | false =>
      simp [put_sl, put_rt, putR_sl, putR_rt]
      have : ¬ a ≤ b := fun h' => by rw [Nat.ble_eq_true_of_le h'] at h; cases h
      omega

/-- An append's run, and what it leaves. -/
theorem append_core (m : Mem C s.rt rv F S G w) {t te ty : TypeId} {e0 : Ty} {dd d2 J0 : Nat} {xs ys : List e0.den} {tk1 tk2 : RL} {vx vy : Value} (hu : P.underlying t = some (.slice te)) (hte : TyOk P te e0) (hf : s.rt J0 = .none)
    (n1 : (ids tk1).Nodup) (n2 : Takes s.rt tk1) (n3 : ∀ id st, (id, st) ∈ tk1 → st = .dead) (rx : Rows w S F e0 dd xs vx tk1 True)
    (k1 : (ids tk2).Nodup) (k2 : Takes s.rt tk2) (k3 : ∀ id st, (id, st) ∈ tk2 → st = .dead) (ry : Rows w S F e0 d2 ys vy tk2 False)
    (hap : apartIds tk1 tk2 = true) (hroom : xs.length + ys.length ≤ room (bytesOf P t)) :
    ∃ v' w', (Builtin.append_ #[t, t] ty #[vx, vy]).run P w = .ok v' w' ∧ ∃ rv' F' S' G', Mem C (putRs ((J0, .live ⟨appDepth e0 dd d2, e0, xs ++ ys, 0⟩) :: (tk1 ++ tk2)) s).rt rv' F' S' G' w' ∧
      Keep w S s.rt rv w' S' (putRs ((J0, .live ⟨appDepth e0 dd d2, e0, xs ++ ys, 0⟩) :: (tk1 ++ tk2)) s).rt rv' ∧ RSV w' S' (putRs ((J0, .live ⟨appDepth e0 dd d2, e0, xs ++ ys, 0⟩) :: (tk1 ++ tk2)) s).rt rv' (.at J0 0 []) v' := by
  obtain ⟨v', w', hrun, r1, r2, r3, r4⟩ := append_run (P := P) (w := w) (t := t) (te := te) (ty := ty) (e := e0) (nx := xs.length) (ny := ys.length) (v := vx) (u := vy) hu hte
    (by
      rcases rx with ⟨rfl, hq⟩ | ⟨b, ob, cc, arr, Gi, h1, h2, h3, h4, h5, h6, h7, h8⟩
      · exact .inl ⟨rfl, hq⟩
      · exact .inr ⟨b, ob, cc, arr, h1, (h8 trivial).1, h2, h3⟩)
    (by
      rcases ry with ⟨rfl, A, hq⟩ | ⟨b, ob, cc, arr, Gi, h1, h2, h3, h4, h5, h6, h7, h8⟩
      · exact .inl ⟨rfl, A, hq⟩
      · exact .inr ⟨b, ob, cc, arr, h1, h4, by
          have : ys.length * e0.size ≤ cc * e0.size := Nat.mul_le_mul_right _ h2
          omega, rows_one h5⟩)
    hroom
  -- depth
  have hdep := appDepth_ok (e := e0) (a := dd) (b := d2)
  have hD1 : e0.flat = true ∨ appDepth e0 dd d2 ≤ dd := hdep.imp (fun h => h) (·.1)
  have hD2 : e0.flat = true ∨ appDepth e0 dd d2 ≤ d2 := hdep.imp (fun h => h) (·.2)
  -- the elements' blocks
  have hX : ∃ (Gx : Nat → Fp) (Sx : Fp), (∀ i b, i < xs.length → Gx i b → taken tk1 F b) ∧ (∀ b, Sx b → taken tk1 F b) ∧ (∀ i b, i < xs.length → Gx i b → ¬ Sx b) ∧ (∀ i j b, i < xs.length → j < xs.length → Gx i b → Gx j b → i = j) ∧
      ((xs = [] ∧ ∃ A, vx = .slice A 0 0) ∨ ∃ b ob cc arr, vx = .slice (some ⟨b, ob, none⟩) xs.length cc ∧ 0 < cc ∧ Own e0.mk w b arr ∧ taken tk1 F b ∧ (∀ i, i < xs.length → ¬ Gx i b) ∧ ¬ Sx b ∧
        ∀ i (h : i < xs.length), rep w (fun b => S b ∨ Sx b) e0 (appDepth e0 dd d2) xs[i] (seg arr (ob + i * e0.size) e0.size) (Gx i)) := by
    have empty : xs = [] → (∃ A, vx = .slice A 0 0) → (∃ (Gx : Nat → Fp) (Sx : Fp), (∀ i b, i < xs.length → Gx i b → taken tk1 F b) ∧ (∀ b, Sx b → taken tk1 F b) ∧ (∀ i b, i < xs.length → Gx i b → ¬ Sx b) ∧ (∀ i j b, i < xs.length → j < xs.length → Gx i b → Gx j b → i = j) ∧
      ((xs = [] ∧ ∃ A, vx = .slice A 0 0) ∨ ∃ b ob cc arr, vx = .slice (some ⟨b, ob, none⟩) xs.length cc ∧ 0 < cc ∧ Own e0.mk w b arr ∧ taken tk1 F b ∧ (∀ i, i < xs.length → ¬ Gx i b) ∧ ¬ Sx b ∧
        ∀ i (h : i < xs.length), rep w (fun b => S b ∨ Sx b) e0 (appDepth e0 dd d2) xs[i] (seg arr (ob + i * e0.size) e0.size) (Gx i))) := fun h1 h2 => ⟨fun _ _ => False, fun _ => False, fun _ _ _ h => h.elim, fun _ h => h.elim, fun _ _ _ h => h.elim, fun _ _ _ _ _ h => h.elim, .inl ⟨h1, h2⟩⟩
    rcases rx with ⟨hxs, hq⟩ | ⟨b, ob, cc, arr, Gi, h1, h2, h3, h4, h5, h6, h7, h8⟩
    · exact empty hxs hq
    · cases cc with
      | zero =>
        have h0 : xs.length = 0 := by omega
        exact empty (List.length_eq_zero_iff.1 h0) ⟨_, by rw [h1, h0]⟩
      | succ cc =>
        obtain ⟨Gs, Sx, g1, g2, g3, g4⟩ := lower_rows h5 h6 hD1
        obtain ⟨o1, o2, o3⟩ := h8 trivial
        exact ⟨Gs, Sx, fun i b hi hb => h7 i b hi (g1 i b hi hb), fun b hb => by obtain ⟨i, hi, hb⟩ := g2 b hb; exact h7 i b hi hb, g3, fun i j b hi hj hb hc => h6 i j b hi hj (g1 i b hi hb) (g1 j b hj hc),
          .inr ⟨b, ob, cc + 1, arr, h1, Nat.succ_pos _, o1, o2, fun i hi hb => o3 i hi (g1 i b hi hb), fun hb => by obtain ⟨i, hi, hb⟩ := g2 b hb; exact o3 i hi hb, g4⟩⟩
  have hY : ∃ (Gy : Nat → Fp) (Sy : Fp), (∀ i b, i < ys.length → Gy i b → taken tk2 F b) ∧ (∀ b, Sy b → taken tk2 F b) ∧ (∀ i b, i < ys.length → Gy i b → ¬ Sy b) ∧ (∀ i j b, i < ys.length → j < ys.length → Gy i b → Gy j b → i = j) ∧
      ((ys = [] ∧ ∃ A, vy = .slice A 0 0) ∨ ∃ b ob cc arr, vy = .slice (some ⟨b, ob, none⟩) ys.length cc ∧ Has w b arr ∧
        ∀ i (h : i < ys.length), rep w (fun b => S b ∨ Sy b) e0 (appDepth e0 dd d2) ys[i] (seg arr (ob + i * e0.size) e0.size) (Gy i)) := by
    rcases ry with ⟨rfl, A, hq⟩ | ⟨b, ob, cc, arr, Gi, h1, h2, h3, h4, h5, h6, h7, h8⟩
    · exact ⟨fun _ _ => False, fun _ => False, fun _ _ _ h => h.elim, fun _ h => h.elim, fun _ _ _ h => h.elim, fun _ _ _ _ _ h => h.elim, .inl ⟨rfl, A, hq⟩⟩
    · obtain ⟨Gs, Sx, g1, g2, g3, g4⟩ := lower_rows h5 h6 hD2
      exact ⟨Gs, Sx, fun i b hi hb => h7 i b hi (g1 i b hi hb), fun b hb => by obtain ⟨i, hi, hb⟩ := g2 b hb; exact h7 i b hi hb, g3, fun i j b hi hj hb hc => h6 i j b hi hj (g1 i b hi hb) (g1 j b hj hc),
        .inr ⟨b, ob, cc, arr, h1, h4, g4⟩⟩
  obtain ⟨Gx, Sx, x1, x2, x3, x4, x5⟩ := hX
  obtain ⟨Gy, Sy, y1, y2, y3, y4, y5⟩ := hY
  -- the new root's blocks
  let Fb : Fp := fun b => ∃ ob cc, 0 < cc ∧ vx = .slice (some ⟨b, ob, none⟩) xs.length cc
  let Fl : Fp := fun b => (Fb b) ∨ (∃ i, i < xs.length ∧ Gx i b) ∨ (∃ i, i < ys.length ∧ Gy i b)
  have hFb : ∀ b, Fb b → taken tk1 F b ∧ (∀ i, i < xs.length → ¬ Gx i b) ∧ ¬ Sx b := by
    rintro b ⟨ob, cc, hcc, he⟩
    rcases x5 with ⟨_, A, h⟩ | ⟨b', ob', cc', arr, h1, _, h2, h3, h4, h5, _⟩
    · rw [h] at he
      simp only [Value.slice.injEq] at he
      omega
    · rw [h1] at he; cases he; exact ⟨h3, h4, h5⟩
  have sp : Split (tk1 ++ tk2) F Fl (fun b => Sx b ∨ Sy b) := by
    refine ⟨?_, ?_, ?_, ?_⟩
    · rintro b (hb | ⟨i, hi, hb⟩ | ⟨i, hi, hb⟩)
      · exact taken_app.2 (.inl (hFb b hb).1)
      · exact taken_app.2 (.inl (x1 i b hi hb))
      · exact taken_app.2 (.inr (y1 i b hi hb))
    · rintro b (hb | hb)
      · exact taken_app.2 (.inl (x2 b hb))
      · exact taken_app.2 (.inr (y2 b hb))
    · rintro b (hb | ⟨i, hi, hb⟩ | ⟨i, hi, hb⟩) (hc | hc)
      · exact (hFb b hb).2.2 hc
      · exact taken_apart m hap (hFb b hb).1 (y2 b hc)
      · exact x3 i b hi hb hc
      · exact taken_apart m hap (x1 i b hi hb) (y2 b hc)
      · exact taken_apart m hap (x2 b hc) (y1 i b hi hb)
      · exact y3 i b hi hb hc
    · intro id τ zs hm
      rcases List.mem_append.1 hm with hm | hm
      · have := n3 _ _ hm; cases this
      · have := k3 _ _ hm; cases this
  have nd := nodup_app n1 k1 hap
  have tks := n2.app k2
  obtain ⟨m1, K1⟩ := consume m nd tks sp
  obtain ⟨hrt, hfr⟩ := putRs_head (x := .live ⟨appDepth e0 dd d2, e0, xs ++ ys, 0⟩) nd tks hf
  have hwG : ∀ k, ¬ (G k ∨ Fl k) → k < w.heap.size → w'.heap[k]? = w.heap[k]? := by
    intro k hk hlt
    refine r3 k hlt fun ob cc nn hcc he => hk (.inr (.inl ?_))
    rcases x5 with ⟨_, A, h⟩ | ⟨b', ob', cc', arr, h1, h10, _⟩
    · rw [h] at he
      simp only [Value.slice.injEq] at he
      omega
    · rw [h1] at he; cases he; exact ⟨_, _, h10, h1⟩
  have hsame : ∀ b, (S b ∨ (Sx b ∨ Sy b)) → w'.heap[b]? = w.heap[b]? := fun b hb => hwG b (fun hg => m1.gsep b hg hb) (m1.slt b hb)
  have hel : ∀ b, ((∃ i, i < xs.length ∧ Gx i b) ∨ (∃ i, i < ys.length ∧ Gy i b)) → w'.heap[b]? = w.heap[b]? ∧ ¬ Fb b ∧ b < w.heap.size := by
    intro b hb
    have hfb : ¬ Fb b := by
      intro hc
      rcases hb with ⟨i, hi, hb⟩ | ⟨i, hi, hb⟩
      · exact (hFb b hc).2.1 i hi hb
      · exact taken_apart m hap (hFb b hc).1 (y1 i b hi hb)
    have hlt : b < w.heap.size := m1.glt b (.inr (.inr hb))
    refine ⟨r3 b hlt fun ob cc nn hcc he => hfb ?_, hfb, hlt⟩
    rcases x5 with ⟨_, A, h⟩ | ⟨b', ob', cc', arr, h1, h10, _⟩
    · rw [h] at he
      simp only [Value.slice.injEq] at he
      omega
    · rw [h1] at he; cases he; exact ⟨_, _, h10, h1⟩
  have hrep : ∃ Fn : Fp, (∀ b, Fn b → (G b ∨ Fl b) ∨ w.heap.size ≤ b) ∧ rep w' (fun b => S b ∨ (Sx b ∨ Sy b)) (.list e0) (appDepth e0 dd d2 + 1) (xs ++ ys) [v'] Fn := by
    rcases r4 with ⟨q1, ⟨A2, q2⟩, q3⟩ | ⟨b', o', c', arr', q1, q2, q3, q4, q5, q6, q7⟩
    · refine ⟨fun _ => False, fun _ h => h.elim, .inl ⟨⟨A2, by rw [q2]⟩, ?_, fun _ h => h⟩⟩
      have h1 : xs.length = 0 := by omega
      have h2 : ys.length = 0 := by omega
      rw [List.length_eq_zero_iff.1 h1, List.length_eq_zero_iff.1 h2]; rfl
    · let Gz : Nat → Fp := fun i => if i < xs.length then Gx i else Gy (i - xs.length)
      have hGz : ∀ i b, i < (xs ++ ys).length → Gz i b → (∃ i, i < xs.length ∧ Gx i b) ∨ (∃ i, i < ys.length ∧ Gy i b) := by
        intro i b hi hb
        by_cases h : i < xs.length
        · simp only [Gz, h, if_true] at hb; exact .inl ⟨i, h, hb⟩
        · simp only [Gz, h, if_false] at hb
          simp [put_sl, put_rt, putR_sl, putR_rt] at hi
          exact .inr ⟨i - xs.length, by omega, hb⟩
      have hb'F : (Fb b') ∨ w.heap.size ≤ b' := by
        rcases q5 with ⟨ob, cc, nn, hcc, he⟩ | h
        · left
          rcases x5 with ⟨_, A, h⟩ | ⟨b2, ob', cc', arr, h1, h10, _⟩
          · rw [h] at he
            simp only [Value.slice.injEq] at he
            omega
          · rw [h1] at he; cases he; exact ⟨_, _, h10, h1⟩
        · exact .inr h
      refine ⟨fun b => b = b' ∨ ∃ i, i < (xs ++ ys).length ∧ Gz i b, ?_, .inr ⟨b', o', c', arr', fun b => ∃ i, i < (xs ++ ys).length ∧ Gz i b, by rw [q1, List.length_append], by rw [List.length_append]; exact q3, q4, ⟨Gz, ?_, ?_, fun b => Iff.rfl⟩, .inr ⟨Nat.succ_pos _, q2, ?_, fun b => Iff.rfl⟩⟩⟩
      · rintro b (rfl | ⟨i, hi, hb⟩)
        · exact hb'F.imp (fun h => .inr (.inl h)) (fun h => h)
        · exact .inl (.inr (.inr (hGz i b hi hb)))
      · intro i hi
        by_cases h : i < xs.length
        · rcases x5 with ⟨h0, _⟩ | ⟨b2, ob', cc', arr, h1, _, h2, _, _, _, h6⟩
          · rw [h0] at h; simp [put_sl, put_rt, putR_sl, putR_rt] at h
          · rw [q6 b2 ob' cc' arr h1 h2 i h]
            simp only [Gz, h, if_true, Nat.add_sub_cancel]
            rw [List.getElem_append_left h]
            exact rep_frame (fun b hb => hb.imp (fun h => h) .inl) (fun b hb => hsame b (hb.imp (fun h => h) .inl)) (fun b hb => (hel b (.inl ⟨i, h, hb⟩)).1) (h6 i h)
        · simp [put_sl, put_rt, putR_sl, putR_rt] at hi
          rcases y5 with ⟨h0, _⟩ | ⟨b2, ob', cc', arr, h1, h2, h6⟩
          · rw [h0] at hi; simp [put_sl, put_rt, putR_sl, putR_rt] at hi; omega
          · have hj : i - xs.length < ys.length := by omega
            have hsg := q7 b2 ob' cc' arr h1 h2 (i - xs.length) hj
            rw [show xs.length + (i - xs.length) = i by omega] at hsg
            rw [hsg]
            simp only [Gz, h, if_false, Nat.add_sub_cancel]
            rw [List.getElem_append_right (by omega)]
            exact rep_frame (fun b hb => hb.imp (fun h => h) .inr) (fun b hb => hsame b (hb.imp (fun h => h) .inr)) (fun b hb => (hel b (.inr ⟨_, hj, hb⟩)).1) (h6 _ hj)
      · intro i j b hi hj hb hc
        simp [put_sl, put_rt, putR_sl, putR_rt] at hi hj
        by_cases h1 : i < xs.length <;> by_cases h2 : j < xs.length
        · simp only [Gz, h1, h2, if_true] at hb hc; exact x4 i j b h1 h2 hb hc
        · simp only [Gz, h1, h2, if_true, if_false] at hb hc
          exact (taken_apart m hap (x1 i b h1 hb) (y1 _ b (by omega) hc)).elim
        · simp only [Gz, h1, h2, if_true, if_false] at hb hc
          exact (taken_apart m hap (x1 j b h2 hc) (y1 _ b (by omega) hb)).elim
        · simp only [Gz, h1, h2, if_false] at hb hc
          have := y4 _ _ b (by omega) (by omega) hb hc
          omega
      · rintro ⟨i, hi, hb⟩
        obtain ⟨_, g2, g3⟩ := hel b' (hGz i b' hi hb)
        rcases hb'F with h | h
        · exact g2 h
        · omega
  obtain ⟨Fn, hFn, hrep⟩ := hrep
  obtain ⟨m2, K2⟩ := newRoot m1 (ver := 0) hfr (w' := w') hwG r2 r1 hrep hFn
  refine ⟨v', w', hrun, _, _, _, _, by rw [hrt]; exact m2, by rw [hrt]; exact K1.trans K2, ?_⟩
  rw [hrt]
  simp only [RSV, RAt, if_true]
  exact ⟨Nat.le_refl _, by simp, by simp [put_sl, put_rt, putR_sl, putR_rt, nix]⟩

/-- A slice inside a root is taken out. -/
theorem detach (m : Mem C s.rt rv F S G w) {id J : Nat} {r : Root} {p : List Step} {e : Ty} {b o : Nat} {v : Value} {y : List e.den} (hr : s.rt id = .live r) (hn : nix p = 1) (hd : 1 ≤ r.d)
    (hw : walkV w (rv id) r.τ p = some (.list e, b, o)) (hc : w.cell? ⟨b, o, none⟩ = some v) (hg : getP (.list r.τ) r.xs p = some ⟨.list e, y⟩) (hJ : s.rt J = .none) :
    ∃ F', Mem C (fun j => if j = J then .live ⟨r.d - 1, e, y, 0⟩ else if j = id then .hole r p else s.rt j) (fun j => if j = J then v else rv j) F' S G w ∧
      Keep w S s.rt rv w S (fun j => if j = J then .live ⟨r.d - 1, e, y, 0⟩ else if j = id then .hole r p else s.rt j) (fun j => if j = J then v else rv j) ∧ ∀ j, j ≠ J → j ≠ id → F' j = F j := by
  have hJid : id ≠ J := fun h => by subst h; rw [hr] at hJ; cases hJ
  obtain ⟨y1, hget, qkr, arr, Fs, Fr, a1, _, a3, a4, a5, a6, a7, a8⟩ := focV (m.live id r hr) hw (by omega)
  rw [hg] at hget
  cases hget
  obtain ⟨u1, u2, u3⟩ := a7 trivial
  have hdp : depthP (r.d + 1) p = r.d := by rw [depth_nix]; omega
  have hsz1 : (Ty.list e).size = 1 := rfl
  have hsg : seg arr o 1 = [v] := seg_one (by rw [← a1.cell]; exact hc)
  rw [hdp] at a4 a8
  have a4' : rep w S (.list e) r.d y [v] Fs := by rw [← hsg]; exact a4
  have hFs : ∀ b', Fs b' → F id b' := fun b' h => (a6 b').2 (.inr (.inl h))
  have hFr : ∀ b', (Fr b' ∨ b' = b) → F id b' := fun b' h => (a6 b').2 (h.elim .inl fun h => .inr (.inr ⟨trivial, h⟩))
  have hno : ∀ b', ¬ F J b' := fun b' hb' => by rcases m.none J b' hb' with ⟨r, hr⟩ | ⟨σ, c, hr⟩ | ⟨r, q, hr⟩ <;> (rw [hJ] at hr; cases hr)
  have hdj : ∀ b', Fs b' → ¬ (Fr b' ∨ b' = b) := fun b' h1 h2 => h2.elim (fun h2 => a5 b' h2 h1) fun h2 => by subst h2; exact u3 h1
  have K : Keep w S s.rt rv w S (fun j => if j = J then .live ⟨r.d - 1, e, y, 0⟩ else if j = id then .hole r p else s.rt j) (fun j => if j = J then v else rv j) := by
    refine ⟨fun _ h => h, fun _ _ => rfl, fun j hj => ?_, fun j hj => ?_, fun j r' h hn => ?_, fun j r' q h hn => ?_, fun j τ xs h hn => ?_, fun j σ c h hn => ?_⟩
    · have : j ≠ J := fun h => by subst h; exact hj hJ
      simp [put_sl, put_rt, putR_sl, putR_rt, this]
    · have h1 : j ≠ J := fun h => by subst h; exact hj hJ
      by_cases h2 : j = id
      · simp [put_sl, put_rt, putR_sl, putR_rt, h1, h2, hJid]
      · simpa [put_sl, put_rt, putR_sl, putR_rt, h1, h2] using hj
    · have h1 : j ≠ J := fun h => by subst h; exact hn hJ
      by_cases h2 : j = id
      · simp [put_sl, put_rt, putR_sl, putR_rt, h2, hJid] at h
      · simp [put_sl, put_rt, putR_sl, putR_rt, h1, h2] at h
        exact .inl ⟨r', h, rfl, fun _ => rfl, Nat.le_refl _, fun _ p σ b o _ h => ⟨h, fun _ _ _ _ h => h⟩⟩
    · have h1 : j ≠ J := fun h => by subst h; exact hn hJ
      by_cases h2 : j = id
      · subst h2
        simp [put_sl, put_rt, putR_sl, putR_rt, h1] at h
        obtain ⟨rfl, rfl⟩ := h
        exact ⟨r, .inl hr, rfl, Nat.le_refl _⟩
      · simp [put_sl, put_rt, putR_sl, putR_rt, h1, h2] at h
        exact ⟨r', .inr ⟨q, h⟩, rfl, Nat.le_refl _⟩
    · have h1 : j ≠ J := fun h => by subst h; exact hn hJ
      by_cases h2 : j = id
      · simp [put_sl, put_rt, putR_sl, putR_rt, h2, hJid] at h
      · simp [put_sl, put_rt, putR_sl, putR_rt, h1, h2] at h; exact .inl h
    · have h1 : j ≠ J := fun h => by subst h; exact hn hJ
      by_cases h2 : j = id
      · simp [put_sl, put_rt, putR_sl, putR_rt, h2, hJid] at h
      · simp [put_sl, put_rt, putR_sl, putR_rt, h1, h2] at h; exact ⟨c, h⟩
  refine ⟨fun j b' => if j = J then Fs b' else if j = id then (Fr b' ∨ b' = b) else F j b', ?_, K, fun j h1 h2 => by simp [put_sl, put_rt, putR_sl, putR_rt, h1, h2]⟩
  have sub : ∀ j b', (if j = J then Fs b' else if j = id then (Fr b' ∨ b' = b) else F j b') → ∃ k, F k b' ∧ (k = j ∨ k = id ∧ (j = J ∨ j = id)) := by
    intro j b' h
    by_cases h1 : j = J
    · simp only [h1, if_true] at h; exact ⟨id, hFs b' h, .inr ⟨rfl, .inl h1⟩⟩
    · by_cases h2 : j = id
      · simp only [h1, h2, if_true, if_false, hJid] at h; exact ⟨id, hFr b' h, .inr ⟨rfl, .inr h2⟩⟩
      · simp only [h1, h2, if_false] at h; exact ⟨j, h, .inl rfl⟩
  constructor
  · intro j r' h
    by_cases h1 : j = J
    · subst h1
      simp [put_sl, put_rt, putR_sl, putR_rt] at h
      subst h
      simp only [if_true]
      have : r.d - 1 + 1 = r.d := by omega
      rw [this]; exact a4'
    · by_cases h2 : j = id
      · simp [put_sl, put_rt, putR_sl, putR_rt, h2, hJid] at h
      · simp [put_sl, put_rt, putR_sl, putR_rt, h1, h2] at h
        simp only [h1, h2, if_false]
        exact m.live j r' h
  · intro j τ xs h
    by_cases h1 : j = J
    · simp [put_sl, put_rt, putR_sl, putR_rt, h1] at h
    · by_cases h2 : j = id
      · simp [put_sl, put_rt, putR_sl, putR_rt, h2, hJid] at h
      · simp [put_sl, put_rt, putR_sl, putR_rt, h1, h2] at h
        simp only [h1, if_false]
        exact m.frz j τ xs h
  · intro j σ c h
    by_cases h1 : j = J
    · simp [put_sl, put_rt, putR_sl, putR_rt, h1] at h
    · by_cases h2 : j = id
      · simp [put_sl, put_rt, putR_sl, putR_rt, h2, hJid] at h
      · simp [put_sl, put_rt, putR_sl, putR_rt, h1, h2] at h
        obtain ⟨b1, arr1, q1, q2, q3, q4, q6⟩ := m.box j σ c h
        exact ⟨b1, arr1, by simpa [put_sl, put_rt, putR_sl, putR_rt, h1] using q1, q2, q3, by simpa [put_sl, put_rt, putR_sl, putR_rt, h1, h2] using q4, BRep_keep K _ _ _ q6⟩
  · intro j r' q h
    by_cases h1 : j = J
    · simp [put_sl, put_rt, putR_sl, putR_rt, h1] at h
    · by_cases h2 : j = id
      · subst h2
        simp [put_sl, put_rt, putR_sl, putR_rt, h1] at h
        obtain ⟨rfl, rfl⟩ := h
        simp only [h1, if_true, if_false]
        refine ⟨e, b, o, qkr, arr, hn, hd, hw, u1, a3, .inr rfl, fun b' hb => m.lt (hFr b' hb), ⟨y, hg⟩, fun w' S' arr' y' Fs' k1 k2 k3 k4 k5 k6 k7 => ?_⟩
        obtain ⟨x', g1, g2⟩ := a8 w' S' arr' y' Fs' k1 (fun b' hb => k2 b' (hb.imp (fun h => ⟨.inl h, fun e => by subst e; exact u2 h⟩) (fun h => h))) k3 (fun i hi => k4 i (by rw [hsz1] at hi; omega)) (fun _ => k5) k6 (fun b' hb => k7 b' (.inl hb)) (fun _ => k7 b (.inr rfl))
        refine ⟨x', g1, rep_iff g2 fun b' => ?_⟩
        constructor
        · rintro ((h | h) | h)
          · exact .inl h
          · exact .inr (.inr ⟨trivial, h⟩)
          · exact .inr (.inl h)
        · rintro (h | h | ⟨_, h⟩)
          · exact .inl (.inl h)
          · exact .inr h
          · exact .inl (.inr h)
      · simp [put_sl, put_rt, putR_sl, putR_rt, h1, h2] at h
        simp only [h1, h2, if_false]
        exact m.hole j r' q h
  · intro j b' hb'
    by_cases h1 : j = J
    · exact .inl ⟨_, by simp only [h1, if_true]; rfl⟩
    · by_cases h2 : j = id
      · exact .inr (.inr ⟨r, p, by simp [put_sl, put_rt, putR_sl, putR_rt, h2, hJid]⟩)
      · simp only [h1, h2, if_false] at hb'
        simpa [put_sl, put_rt, putR_sl, putR_rt, h1, h2] using m.none j b' hb'
  · intro i j b' hi hj
    obtain ⟨k, g1, g2⟩ := sub i b' hi
    obtain ⟨k', g3, g4⟩ := sub j b' hj
    have := m.dis k k' b' g1 g3
    subst this
    by_cases h1 : i = J <;> by_cases h2 : j = J
    · rw [h1, h2]
    · exfalso
      simp only [h1, if_true] at hi
      simp only [h2, if_false] at hj
      by_cases h3 : j = id
      · simp only [h3, if_true] at hj; exact hdj b' hi hj
      · simp only [h3, if_false] at hj; exact h3 (m.dis j id b' hj (hFs b' hi))
    · exfalso
      simp only [h2, if_true] at hj
      simp only [h1, if_false] at hi
      by_cases h3 : i = id
      · simp only [h3, if_true] at hi; exact hdj b' hj hi
      · simp only [h3, if_false] at hi; exact h3 (m.dis i id b' hi (hFs b' hj))
    · rcases g2 with rfl | ⟨rfl, g2⟩
      · rcases g4 with h | ⟨rfl, g4⟩
        · exact h
        · exact (g4.resolve_left h2).symm
      · rcases g4 with rfl | ⟨_, g4⟩
        · exact g2.resolve_left h1
        · rw [g2.resolve_left h1, g4.resolve_left h2]
  · intro j b' hb'
    obtain ⟨k, g1, _⟩ := sub j b' hb'
    exact m.sep k b' g1
  · exact m.gsep
  · exact m.glt
  · exact m.slt
  · exact m.same
  · exact m.size
  · exact m.frame
  · rintro j b' (hb' | hb')
    · obtain ⟨k, g1, _⟩ := sub j b' hb'
      exact m.own k b' (.inl g1)
    · exact m.own j b' (.inr hb')
  · exact m.s0
  · exact m.shr
  · exact m.ok

theorem op_append (m : Mem C s.rt rv F S G w) (hs : ∀ i, RSV w S s.rt rv (s.sl i) (a.tmps.getD i undef)) (hE : EnvTy P E) {n d : Nat} {o : Oper} {c : Call} (ho : o.op = .call c) (hc : c.callee = .builtin .append)
    {e : Eff} {l l' : List Nat} (h : (op E n d (.call c)).run s l = some (e, l')) : Does P o a w (Post C s rv w S e) := by
  simp only [op, hc] at h
  split at h
  · rename_i x y t t' hargs htys
    cases htt : Nat.beq t t' with
    | false => rw [htt] at h; exact (fail_some h).elim
    | true =>
      rw [htt] at h
      obtain rfl := Nat.eq_of_beq_eq_true htt
      obtain ⟨τ, bb, h5, h6⟩ := tyOf_some h
      cases τ with
      | list e0 =>
        simp only at h6
        obtain ⟨hf, h7⟩ := fresh_some h6
        obtain ⟨v, l1, h8, h9⟩ := run_bind_some h7
        obtain ⟨u, l2, h10, h11⟩ := run_bind_some h9
        obtain ⟨⟨dd, xs, tk1⟩, l3, h12, h13⟩ := run_bind_some h11
        obtain ⟨⟨d2, ys, tk2⟩, l4, h14, h15⟩ := run_bind_some h13
        obtain ⟨h16, h17⟩ := chk_some h15
        have := ret_some h17; cases this
        rw [Bool.and_eq_true] at h16
        obtain ⟨hap, hroom⟩ := h16
        have hroom := of_decide_eq_true hroom
        have hx := opd_sound hs h8
        have hy := opd_sound hs h10
        obtain ⟨k1, k2, k3, ry⟩ := appSrc_sound m h14 hy
        obtain ⟨te, hu, hte⟩ := (hE.ok h5).1.slice
        have hbb := (hE.ok h5).2
        subst hbb
        have hargs' : c.args = #[x, y] := by apply Array.ext'; simpa using hargs
        have htys' : c.argTypes = #[t, t] := by apply Array.ext'; simpa using htys
        have hexec : ∀ v' w', (Builtin.append_ #[t, t] o.type #[a.eval x, a.eval y]).run P w = .ok v' w' → (execOp a.eval o).run P w = .ok (.value v') w' := by
          intro v' w' hrun
          simp [put_sl, put_rt, putR_sl, putR_rt, execOp, ho, resolve, hc, hargs', htys', invoke, builtin, hrun]
        rcases appBase_sound m h12 hx with ⟨n1, n2, n3, rx⟩ | ⟨id, p, r, b, ob, hJ, hr, hn1, hd1, hg, rfl, rfl, hw, hcell⟩
        · obtain ⟨v', w', hrun, rv', F', S', G', m2, K2, hv'⟩ := append_core m (ty := o.type) hu hte hf n1 n2 n3 rx k1 k2 k3 ry hap hroom
          exact .inl ⟨v', w', hexec _ _ hrun, Post.mk rfl m2 K2 hv'⟩
        · obtain ⟨F1, m1, K1, hF1⟩ := detach m hr hn1 hd1 hw hcell hg hJ
          have hJJ : (32 * d + 1) ≠ 32 * d := by omega
          have hid0 : id ≠ 32 * d := fun h => by subst h; rw [hr] at hf; cases hf
          have hidJ : id ≠ 32 * d + 1 := fun h => by subst h; rw [hr] at hJ; cases hJ
          have hnt : ∀ k ∈ ids tk2, k ≠ 32 * d + 1 ∧ k ≠ id := by
            intro k hk
            have := apartIds_spec hap
            exact ⟨fun h => this k (by simp [put_sl, put_rt, putR_sl, putR_rt, ids, h]) hk, fun h => this k (by simp [put_sl, put_rt, putR_sl, putR_rt, ids, h]) hk⟩
          let s1 : St := ⟨s.sl, fun j => if j = 32 * d + 1 then .live ⟨r.d - 1, e0, xs, 0⟩ else if j = id then .hole r p else s.rt j⟩
          have m1' : Mem C s1.rt (fun j => if j = 32 * d + 1 then a.eval x else rv j) F1 S G w := m1
          have htk2 : ∀ b, taken tk2 F b → taken tk2 F1 b := by
            rintro b ⟨k, st, hk, hb⟩
            obtain ⟨q1, q2⟩ := hnt k (mem_ids.2 ⟨st, hk⟩)
            exact ⟨k, st, hk, by rw [hF1 k q1 q2]; exact hb⟩
          have ry' : Rows w S F1 e0 d2 ys (a.eval y) tk2 False := by
            rcases ry with h | ⟨b, ob, cc, arr, Gi, g1, g2, g3, g4, g5, g6, g7, g8⟩
            · exact .inl h
            · exact .inr ⟨b, ob, cc, arr, Gi, g1, g2, g3, g4, g5, g6, fun i b hi hb => htk2 b (g7 i b hi hb), fun h => h.elim⟩
          have rx' : Rows w S F1 e0 (r.d - 1) xs (a.eval x) [(32 * d + 1, .dead)] True := by
            have h0 := m1'.live (32 * d + 1) ⟨r.d - 1, e0, xs, 0⟩ (by simp [put_sl, put_rt, putR_sl, putR_rt, s1])
            simp only [if_true] at h0
            rcases list_open h0 with ⟨h1, h2, _⟩ | ⟨b, o, c, arr, Gi, h1, h2, h3, h4, h5, h6, h7, _⟩
            · exact .inl ⟨h1, h2⟩
            · obtain ⟨g1, g2, g3⟩ := h7 (by simp [put_sl, put_rt, putR_sl, putR_rt])
              exact .inr ⟨b, o, c, arr, Gi, h1, h2, h3, h4, h5, h6, fun i b' hi hb => ⟨_, .dead, List.mem_singleton.2 rfl, (g3 b').2 (.inr ⟨i, hi, hb⟩)⟩,
                fun _ => ⟨g1, ⟨_, .dead, List.mem_singleton.2 rfl, (g3 b).2 (.inl rfl)⟩, g2⟩⟩
          have hf1 : s1.rt (32 * d) = .none := by
            show (if 32 * d = 32 * d + 1 then _ else if 32 * d = id then _ else s.rt (32 * d)) = RSt.none
            rw [if_neg (by omega), if_neg (Ne.symm hid0)]; exact hf
          have hap1 : apartIds [(32 * d + 1, RSt.dead)] tk2 = true := by
            simp only [apartIds, List.all_cons, List.all_nil, Bool.and_true, Bool.and_eq_true] at hap ⊢
            exact hap.1
          obtain ⟨v', w', hrun, rv', F', S', G', m2, K2, hv'⟩ := append_core m1' (ty := o.type) hu hte hf1 (tk1 := [(32 * d + 1, .dead)]) (by simp [put_sl, put_rt, putR_sl, putR_rt, ids]) (by
              intro i st hi
              simp [put_sl, put_rt, putR_sl, putR_rt] at hi
              obtain ⟨rfl, rfl⟩ := hi
              exact ⟨⟨r.d - 1, e0, xs, 0⟩, by simp [put_sl, put_rt, putR_sl, putR_rt, s1], .inl rfl⟩) (fun i st hi => by simp [put_sl, put_rt, putR_sl, putR_rt] at hi; exact hi.2) rx' k1 (by
              intro i st hi
              obtain ⟨q1, q2⟩ := hnt i (mem_ids.2 ⟨st, hi⟩)
              obtain ⟨r', hr', hst⟩ := k2 i st hi
              exact ⟨r', by simp [put_sl, put_rt, putR_sl, putR_rt, s1, q1, q2, hr'], hst⟩) k3 ry' hap1 hroom
          have hrt : (putRs ((32 * d, .live ⟨appDepth e0 (r.d - 1) d2, e0, xs ++ ys, 0⟩) :: ([(32 * d + 1, .dead), (id, .hole r p)] ++ tk2)) s).rt =
              (putRs ((32 * d, .live ⟨appDepth e0 (r.d - 1) d2, e0, xs ++ ys, 0⟩) :: ([(32 * d + 1, .dead)] ++ tk2)) s1).rt := by
            funext j
            simp only [List.cons_append, List.nil_append, putRs]
            by_cases hjt : j ∈ ids tk2
            · obtain ⟨st, hst⟩ := mem_ids.1 hjt
              rw [putRs_mem tk2 _ j st k1 hst, putRs_mem tk2 _ j st k1 hst]
            · rw [putRs_other tk2 _ j hjt, putRs_other tk2 _ j hjt]
              simp only [putR_rt, s1]
              by_cases h1 : j = id
              · simp [put_sl, put_rt, putR_sl, putR_rt, h1, hidJ, hid0]
              · by_cases h2 : j = 32 * d + 1
                · simp [put_sl, put_rt, putR_sl, putR_rt, h2, Ne.symm hidJ]
                · by_cases h3 : j = 32 * d
                  · simp [put_sl, put_rt, putR_sl, putR_rt, h3, Ne.symm hid0]
                  · simp [put_sl, put_rt, putR_sl, putR_rt, h1, h2, h3]
          have K1' : Keep w S s.rt rv w S s1.rt (fun j => if j = 32 * d + 1 then a.eval x else rv j) := K1
          exact .inl ⟨v', w', hexec _ _ hrun, Post.mk hrt m2 (K1'.trans K2) hv'⟩
      | _ => exact (fail_some h6).elim
  · exact (fail_some h).elim
end
end Go.Abs
set_option linter.unusedVariables false
set_option linter.unusedSimpArgs false
set_option linter.unnecessarySimpa false
set_option linter.unusedSectionVars false
namespace Go.Abs
open Go

/-- no call waits, and the slots that nobody writes are as they were -/
def Held0 (C : Ctx) (a : Act) : Prop := a.defers = [] ∧ ∀ i v, C.fix i = some v → a.tmps.getD i undef = v

/-- The state is the machine's. -/
def RelE (C : Ctx) (s : St) (a : Act) (w : World) : Prop :=
  (∃ rv F S G, Mem C s.rt rv F S G w ∧ ∀ i, RSV w S s.rt rv (s.sl i) (a.tmps.getD i undef)) ∧ Held0 C a

/-- what is laid of a program's own variables -/
def Gl (P : Program) (w : World) (S : Fp) : Prop := ∀ g, P.globalNamed "internal/strconv.uint64pow10.not" = some g → S g ∧ w.var? P "internal/strconv.uint64pow10.not" = some (((List.range 20).map fun i => ((10 ^ i : Nat) : Int)).map fun z => Value.int .u64 z).toArray
def OpSound (P : Program) (E : Env) : Prop := ∀ (C : Ctx) (_ : C.gl = Gl P) (s : St) (rv : Nat → Value) (F : Nat → Fp) (S G : Fp) (w : World) (a : Act) (n d : Nat) (o : Oper) (e : Eff) (l l' : List Nat),
  Mem C s.rt rv F S G w → (∀ i, RSV w S s.rt rv (s.sl i) (a.tmps.getD i undef)) → (op E n d o.op).run s l = some (e, l') → Does P o a w (Post C s rv w S e)

theorem eff_rt (e : Eff) (d : Option Tmp) (s : St) : (e.on d s).rt = (putRs e.rts s).rt := by
  unfold Eff.on
  cases d with
  | none => rfl
  | some d =>
    simp only
    have : ∀ (l : RL) (s s' : St), s.rt = s'.rt → (putRs l s).rt = (putRs l s').rt := by
      intro l
      induction l with
      | nil => intro s s' h; exact h
      | cons p l ih => intro s s' h; simp only [putRs]; exact ih _ _ (by funext j; simp [put_sl, put_rt, putR_sl, putR_rt, h])
    exact this _ _ _ rfl

theorem eff_sl (e : Eff) (d : Option Tmp) (s : St) (j : Nat) : (e.on d s).sl j = if d = some j then e.v else s.sl j := by
  unfold Eff.on
  cases d with
  | none => simp [put_sl, put_rt, putR_sl, putR_rt, putRs_sl]
  | some d =>
    simp only [putRs_sl, put_sl, Option.some.injEq]
    by_cases h : j = d
    · subst h; simp [put_sl, put_rt, putR_sl, putR_rt]
    · rw [if_neg h, if_neg (fun h' => h h'.symm)]

/-- behind an operation -/
theorem after_op {C : Ctx} {s : St} {rv : Nat → Value} {S : Fp} {w w' : World} {a : Act} {e : Eff} {d : Option Tmp} {v : Value}
    (hs : ∀ i, RSV w S s.rt rv (s.sl i) (a.tmps.getD i undef)) (hd : Held0 C a) (hsz : ∀ t, d = some t → t < a.tmps.size ∧ C.fix t = none) (hp : Post C s rv w S e v w') : RelE C (e.on d s) (a.put d v) w' := by
  obtain ⟨rv', F', S', G', m', k', r'⟩ := hp
  have hget : ∀ i, (a.put d v).tmps.getD i undef = if d = some i then v else a.tmps.getD i undef := by
    intro i
    cases d with
    | none => simp [put_sl, put_rt, putR_sl, putR_rt, Act.put]
    | some t =>
      have := (hsz t rfl).1
      simp only [Act.put, Option.some.injEq]
      by_cases h : t = i
      · subst h; simp [put_sl, put_rt, putR_sl, putR_rt, Array.getD, this]
      · rw [if_neg h, Array.getD_eq_getD_getElem?, Array.getD_eq_getD_getElem?, Array.getElem?_setIfInBounds_ne h]
  refine ⟨⟨rv', F', S', G', by rw [eff_rt]; exact m', fun i => ?_⟩, by cases d <;> exact hd.1, fun i v' hv' => ?_⟩
  · rw [eff_rt, eff_sl, hget]
    split
    · exact r'
    · exact RSV_keep k' _ _ (hs i)
  · rw [hget, if_neg (fun e => by have := (hsz i e).2; rw [hv'] at this; cases this)]
    exact hd.2 i v' hv'

theorem upd_undef {C : Ctx} {s : St} {a : Act} {w : World} {d : Option Tmp} {v : Value} (h : RelE C s a w) (hsz : ∀ t, d = some t → t < a.tmps.size ∧ C.fix t = none) (hv : v = undef) : RelE C ((Eff.mk (.tup []) []).on d s) (a.put d v) w := by
  obtain ⟨⟨rv, F, S, G, m, hs⟩, hd⟩ := h
  exact after_op hs hd hsz ⟨rv, F, S, G, m, Keep.refl _ _ _ _, by simp only [RSV]; exact ⟨[], by simp only [RSVs], hv⟩⟩

section
variable {P : Program} {E : Env} {ops : Array Oper} {Q : Exit → Act → World → Prop} {C : Ctx} {n : Nat}

/-- One operation of a region. -/
theorem opG_sound (H : OpSound P E) (hC : C.gl = Gl P) {i : Nat} {o : Oper} (ho : ops[i]? = some o) {s : St} {a : Act} {w : World} {e : Eff} {l' : List Nat} (h : (opG E n ops o).run s [] = some (e, l'))
    (hr : RelE C s a w) (hsz : ∀ t, o.dst = some t → t < a.tmps.size ∧ C.fix t = none) {K : Act → World → Prop} (hK : ∀ a' w', RelE C (e.on o.dst s) a' w' → a'.tmps.size = a.tmps.size → K a' w') : wpOp P ops Q i K a w := by
  have hput : ∀ v, (a.put o.dst v).tmps.size = a.tmps.size := by intro v; cases o.dst <;> simp [put_sl, put_rt, putR_sl, putR_rt, Act.put]
  unfold wpOp
  simp only [ho]
  have run1 : ∀ l l', (op E n (o.dst.getD 999) o.op).run s l = some (e, l') → o.wp P a w K Q := by
    intro l l' h
    obtain ⟨⟨rv, F, S, G, m, hs⟩, hd⟩ := hr
    have hdoes := H C hC s rv F S G w a n (o.dst.getD 999) o e l l' m hs h
    unfold Oper.wp
    rcases hdoes with ⟨v, w', h1, h2⟩ | ⟨w', h1, h2⟩ | ⟨f, args, w', h1, h2⟩
    · rw [h1]; exact hK _ _ (after_op hs hd hsz h2) (hput v)
    · rw [h1]; exact hK _ _ (after_op hs hd hsz h2) (hput undef)
    · rw [h1]
      refine Calls.mono h2 ?_
      rintro e' w'' ⟨v, rfl, hp⟩
      exact hK _ _ (after_op hs hd hsz hp) (hput v)
  unfold opG at h
  cases hg : o.guard with
  | none =>
    rw [hg] at h
    have : Region.wanted o (yielded ops a.tmps) = true := by simp [put_sl, put_rt, putR_sl, putR_rt, Region.wanted, hg]
    rw [if_pos this]
    exact .inl (run1 _ _ h)
  | some jw =>
    obtain ⟨j, want⟩ := jw
    rw [hg] at h
    simp only at h
    split at h
    · exact (fail_some h).elim
    · rename_i g hgs
      simp only [Rd.run] at h
      split at h
      · rename_i hb
        have hv : a.tmps.getD g undef = undef := by
          obtain ⟨⟨rv, F, S, G, m, hs⟩, hd⟩ := hr
          have := hs g
          rw [hb] at this
          simp only [RSV] at this
          obtain ⟨us, h1, h2⟩ := this
          simp only [RSVs] at h1
          subst h1
          exact h2
        have hy : yielded ops a.tmps j = none := by
          unfold yielded
          unfold guardSlot at hgs
          rw [hgs]
          rw [Array.getD_eq_getD_getElem?] at hv
          cases hq : a.tmps[g]? with
          | none => simp [put_sl, put_rt, putR_sl, putR_rt, hq]
          | some q => rw [hq] at hv; simp [put_sl, put_rt, putR_sl, putR_rt] at hv; simp [put_sl, put_rt, putR_sl, putR_rt, hq, hv, undef]
        have hw : Region.wanted o (yielded ops a.tmps) = false := by
          simp only [Region.wanted, hg, hy]
          rfl
        have := ret_some h; cases this
        rw [if_neg (by rw [hw]; simp [put_sl, put_rt, putR_sl, putR_rt])]
        exact hK _ _ (upd_undef hr hsz rfl) (hput undef)
      simp only [Rd.run] at h
      split at h
      · rename_i b hb
        have hv : a.tmps.getD g undef = .bool b := by
          obtain ⟨⟨rv, F, S, G, m, hs⟩, hd⟩ := hr
          have := hs g
          rw [hb] at this
          exact rsv_bool.1 this
        have hy : yielded ops a.tmps j = some b := by
          unfold yielded
          unfold guardSlot at hgs
          rw [hgs]
          have : a.tmps[g]? = some (.bool b) := by
            rw [Array.getD_eq_getD_getElem?] at hv
            cases hq : a.tmps[g]? with
            | none => rw [hq] at hv; simp [put_sl, put_rt, putR_sl, putR_rt, undef] at hv
            | some q => rw [hq] at hv; simp [put_sl, put_rt, putR_sl, putR_rt] at hv; rw [hv]
          simp [put_sl, put_rt, putR_sl, putR_rt, this]
        have hw : Region.wanted o (yielded ops a.tmps) = (b == want) := by
          simp only [Region.wanted, hg, hy]
          cases b <;> cases want <;> rfl
        cases hbw : b == want with
        | true =>
          rw [hbw] at h
          rw [if_pos (by rw [hw, hbw])]
          exact .inl (run1 _ _ h)
        | false =>
          rw [hbw] at h
          have := ret_some h; cases this
          rw [if_neg (by rw [hw, hbw]; simp [put_sl, put_rt, putR_sl, putR_rt])]
          exact hK _ _ (upd_undef hr hsz rfl) (hput undef)
      · cases h

/-! ### Orders -/
/-- one operation's step -/
def stepI (E : Env) (n : Nat) (ops : Array Oper) (i : Nat) (s : St) : Option (St × (List Nat × List Nat)) :=
  match ops[i]? with
  | some o => ((opG E n ops o).run s []).map fun p => (p.1.on o.dst s, (wrote o p.1, p.2))
  | none => none

def runIs (E : Env) (n : Nat) (ops : Array Oper) : List Nat → St → Option (St × List (Nat × (List Nat × List Nat)))
  | [], s => some (s, [])
  | i :: is, s => (stepI E n ops i s).bind fun p => (runIs E n ops is p.1).map fun q => (q.1, (i, p.2) :: q.2)

theorem noneOf_spec {l m : List Nat} (h : noneOf l m = true) : ∀ i, i ∈ l → i ∉ m := by
  intro i hi hm
  have := List.all_eq_true.1 (List.all_eq_true.1 h i hi) i hm
  simp [put_sl, put_rt, putR_sl, putR_rt] at this

theorem wrote_slot {o : Oper} {e : Eff} {j : Nat} {s : St} (h : 2 * j ∉ wrote o e) : (e.on o.dst s).sl j = s.sl j := by
  rw [eff_sl]
  split
  · rename_i hd
    exfalso
    apply h
    simp [put_sl, put_rt, putR_sl, putR_rt, wrote, hd]
  · rfl

theorem wrote_root {o : Oper} {e : Eff} {j : Nat} {s : St} (h : 2 * j + 1 ∉ wrote o e) : (e.on o.dst s).rt j = s.rt j := by
  rw [eff_rt, putRs_other]
  intro hj
  apply h
  obtain ⟨st, hst⟩ := mem_ids.1 hj
  unfold wrote
  exact List.mem_append_right _ (List.mem_map.2 ⟨_, hst, rfl⟩)

theorem putRs_in : ∀ (l : RL) (s s' : St) (j : Nat), j ∈ ids l → (putRs l s).rt j = (putRs l s').rt j
  | [], s, s', j, h => by simp [put_sl, put_rt, putR_sl, putR_rt, ids] at h
  | (i, r) :: l, s, s', j, h => by
    simp only [putRs]
    by_cases hj : j ∈ ids l
    · exact putRs_in l _ _ j hj
    · have : j = i := by
        simp only [ids, List.map_cons, List.mem_cons] at h
        rcases h with h | h
        · exact h
        · exact absurd h hj
      subst this
      rw [putRs_other l _ _ hj, putRs_other l _ _ hj]; simp [put_sl, put_rt, putR_sl, putR_rt]

theorem swap_steps {i j : Nat} {s s1 s2 : St} {A B : List Nat × List Nat} (h1 : stepI E n ops i s = some (s1, A)) (h2 : stepI E n ops j s1 = some (s2, B)) (hi : indep A B = true) :
    ∃ s1', stepI E n ops j s = some (s1', B) ∧ stepI E n ops i s1' = some (s2, A) := by
  unfold stepI at h1 h2
  cases ho1 : ops[i]? with
  | none => rw [ho1] at h1; cases h1
  | some o1 =>
  cases ho2 : ops[j]? with
  | none => rw [ho2] at h2; cases h2
  | some o2 =>
  rw [ho1] at h1; rw [ho2] at h2
  obtain ⟨⟨e1, l1⟩, r1, q1⟩ := Option.map_eq_some_iff.1 h1
  obtain ⟨⟨e2, l2⟩, r2, q2⟩ := Option.map_eq_some_iff.1 h2
  cases q1
  cases q2
  simp only [indep, Bool.and_eq_true] at hi
  obtain ⟨⟨c1, c2⟩, c3⟩ := hi
  have d1 := noneOf_spec c1
  have d2 := noneOf_spec c2
  have d3 := noneOf_spec c3
  have k2 : (opG E n ops o2).run s [] = some (e2, l2) := Rd.run_local _ _ _ _ _ r2
    (fun k hk => (wrote_slot fun hw => d1 _ hw hk).symm) (fun k hk => (wrote_root fun hw => d1 _ hw hk).symm)
  have k1 : (opG E n ops o1).run (e2.on o2.dst s) [] = some (e1, l1) := Rd.run_local _ _ _ _ _ r1
    (fun k hk => wrote_slot fun hw => d2 _ hw hk) (fun k hk => wrote_root fun hw => d2 _ hw hk)
  refine ⟨e2.on o2.dst s, by simp [put_sl, put_rt, putR_sl, putR_rt, stepI, ho2, k2], ?_⟩
  have hst : e1.on o1.dst (e2.on o2.dst s) = e2.on o2.dst (e1.on o1.dst s) := by
    have ext : ∀ (x y : St), (∀ k, x.sl k = y.sl k) → (∀ k, x.rt k = y.rt k) → x = y := by
      intro x y h h'
      cases x; cases y
      simp only [St.mk.injEq]
      exact ⟨funext h, funext h'⟩
    apply ext
    · intro k
      rw [eff_sl, eff_sl, eff_sl, eff_sl]
      by_cases a1 : o1.dst = some k
      · by_cases a2 : o2.dst = some k
        · exfalso
          refine d3 (2 * k) ?_ ?_
          · simp [put_sl, put_rt, putR_sl, putR_rt, wrote, a1]
          · simp [put_sl, put_rt, putR_sl, putR_rt, wrote, a2]
        · simp [put_sl, put_rt, putR_sl, putR_rt, a1, a2]
      · simp [put_sl, put_rt, putR_sl, putR_rt, a1]
    · intro k
      rw [eff_rt, eff_rt]
      by_cases a1 : k ∈ ids e1.rts
      · have a2 : k ∉ ids e2.rts := by
          intro a2
          obtain ⟨st1, m1⟩ := mem_ids.1 a1
          obtain ⟨st2, m2⟩ := mem_ids.1 a2
          refine d3 (2 * k + 1) ?_ ?_
          · unfold wrote; exact List.mem_append_right _ (List.mem_map.2 ⟨_, m1, rfl⟩)
          · unfold wrote; exact List.mem_append_right _ (List.mem_map.2 ⟨_, m2, rfl⟩)
        rw [putRs_other e2.rts _ k a2, eff_rt]
        exact putRs_in _ _ _ k a1
      · rw [putRs_other e1.rts _ k a1, eff_rt]
        by_cases a2 : k ∈ ids e2.rts
        · exact putRs_in _ _ _ k a2
        · rw [putRs_other e2.rts _ k a2, putRs_other e2.rts _ k a2, eff_rt, putRs_other e1.rts _ k a1]
  simp only [stepI, ho1, k1, Option.map_some]
  rw [hst]

/-- an operation that is left alone by those ahead of it comes first -/
theorem bubble : ∀ (A : List Nat) (i : Nat) (B : List Nat) (s s' : St) (logs : List (Nat × (List Nat × List Nat))), runIs E n ops (A ++ i :: B) s = some (s', logs) →
    (∀ p q, p ∈ logs → q ∈ logs → p.1 ∈ A → q.1 = i → indep p.2 q.2 = true) →
    ∃ s1 x logs', stepI E n ops i s = some (s1, x) ∧ runIs E n ops (A ++ B) s1 = some (s', logs') ∧ (i, x) ∈ logs ∧ ∀ p, p ∈ logs' → p ∈ logs
  | [], i, B, s, s', logs, h, _ => by
    simp only [List.nil_append, runIs] at h
    obtain ⟨⟨s1, x⟩, h1, h2⟩ := Option.bind_eq_some_iff.1 h
    obtain ⟨⟨s2, lg⟩, h3, h4⟩ := Option.map_eq_some_iff.1 h2
    cases h4
    exact ⟨s1, x, lg, h1, h3, by simp, fun p hp => List.mem_cons_of_mem _ hp⟩
  | j :: A, i, B, s, s', logs, h, hi => by
    simp only [List.cons_append, runIs] at h
    obtain ⟨⟨s1, y⟩, h1, h2⟩ := Option.bind_eq_some_iff.1 h
    obtain ⟨⟨s2, lg⟩, h3, h4⟩ := Option.map_eq_some_iff.1 h2
    cases h4
    obtain ⟨s3, x, lg', g1, g2, g3, g4⟩ := bubble A i B s1 _ lg h3 (fun p q hp hq hpA hqi => hi p q (List.mem_cons_of_mem _ hp) (List.mem_cons_of_mem _ hq) (List.mem_cons_of_mem _ hpA) hqi)
    have hind := hi (j, y) (i, x) (by simp [put_sl, put_rt, putR_sl, putR_rt]) (List.mem_cons_of_mem _ g3) (by simp [put_sl, put_rt, putR_sl, putR_rt]) rfl
    obtain ⟨s4, k1, k2⟩ := swap_steps h1 g1 hind
    refine ⟨s4, x, (j, y) :: lg', k1, ?_, List.mem_cons_of_mem _ g3, ?_⟩
    · simp only [List.cons_append, runIs, k2, Option.bind_some, g2, Option.map_some]
    · intro p hp
      rcases List.mem_cons.1 hp with rfl | hp
      · simp [put_sl, put_rt, putR_sl, putR_rt]
      · exact List.mem_cons_of_mem _ (g4 p hp)

theorem runIs_fst : ∀ (is : List Nat) (s s' : St) (logs : List (Nat × (List Nat × List Nat))), runIs E n ops is s = some (s', logs) → logs.map (·.1) = is
  | [], s, s', logs, h => by simp only [runIs] at h; cases h; rfl
  | i :: is, s, s', logs, h => by
    simp only [runIs] at h
    obtain ⟨⟨s1, x⟩, h1, h2⟩ := Option.bind_eq_some_iff.1 h
    obtain ⟨⟨s2, lg⟩, h3, h4⟩ := Option.map_eq_some_iff.1 h2
    cases h4
    simp [put_sl, put_rt, putR_sl, putR_rt, runIs_fst is s1 _ lg h3]

/-- Whatever the order. -/
theorem any_sound (H : OpSound P E) (hC : C.gl = Gl P) {N : Nat} {s' : St} (hQ : ∀ a w, RelE C s' a w → a.tmps.size = N → Q .normal a w) (hdst : ∀ (i : Nat) (o : Oper), ops[i]? = some o → ∀ t, o.dst = some t → t < N ∧ C.fix t = none)
    (hedge : ∀ (i : Nat) (o : Oper), ops[i]? = some o → ∀ e ∈ o.after, Region.binds .any e = true → e.on < i) (ahead : Nat → Nat → Prop)
    (hahead : ∀ (R : List Nat) (i : Nat), (∀ j o, ops[j]? = some o → j ∉ R → ∀ e ∈ o.after, Region.binds .any e = true → e.on ∉ R) → (∀ o, ops[i]? = some o → ∀ e ∈ o.after, Region.binds .any e = true → e.on ∉ R) → ∀ j, ahead i j → j ∉ R) :
    ∀ (fuel : Nat) (R : List Nat) (listed : Array Bool) (s : St) (a : Act) (w : World) (logs : List (Nat × (List Nat × List Nat))), R.length ≤ fuel → R.Pairwise (· < ·) → (∀ i, i ∈ R → i < ops.size) →
      listed.size = ops.size → (∀ i, i < ops.size → (listed.getD i true = false ↔ i ∈ R)) → (∀ j o, ops[j]? = some o → j ∉ R → ∀ e ∈ o.after, Region.binds .any e = true → e.on ∉ R) →
      runIs E n ops R s = some (s', logs) → (∀ p q, p ∈ logs → q ∈ logs → p.1 < q.1 → ahead q.1 p.1 ∨ indep p.2 q.2 = true) → RelE C s a w → a.tmps.size = N →
      wpAny P .any ops Q fuel listed a w := by
  have hready : ∀ (R : List Nat) (listed : Array Bool), R ≠ [] → R.Pairwise (· < ·) → (∀ i, i ∈ R → i < ops.size) → listed.size = ops.size → (∀ i, i < ops.size → (listed.getD i true = false ↔ i ∈ R)) → Region.ready .any ops listed ≠ [] := by
    intro R listed hne hsort hlt hls hl hnil
    match R, hne with
    | i :: R, _ =>
      have hi := hlt i (by simp [put_sl, put_rt, putR_sl, putR_rt])
      have : i ∈ Region.ready .any ops listed := by
        rw [mem_ready]
        refine ⟨(hl i hi).2 (by simp [put_sl, put_rt, putR_sl, putR_rt]), ops[i], Array.getElem?_eq_getElem hi, fun e he hb => ?_⟩
        have h1 := hedge i _ (Array.getElem?_eq_getElem hi) e he hb
        have h2 : e.on ∉ i :: R := by
          intro h
          rcases List.mem_cons.1 h with h | h
          · omega
          · have := List.rel_of_pairwise_cons hsort h; omega
        have h3 : listed.getD e.on true ≠ false := fun h => h2 ((hl e.on (by omega)).1 h)
        have h4 : listed.getD e.on true = true := by simpa using h3
        have hle : e.on < listed.size := by omega
        simp [put_sl, put_rt, putR_sl, putR_rt, Array.getD, hle] at h4 ⊢; exact h4
      rw [hnil] at this; simp [put_sl, put_rt, putR_sl, putR_rt] at this
  have hdone : ∀ (R : List Nat) (listed : Array Bool) (s : St) (a : Act) (w : World) (logs : List (Nat × (List Nat × List Nat))), R.Pairwise (· < ·) → (∀ i, i ∈ R → i < ops.size) → listed.size = ops.size →
      (∀ i, i < ops.size → (listed.getD i true = false ↔ i ∈ R)) → runIs E n ops R s = some (s', logs) → RelE C s a w → a.tmps.size = N → Region.ready .any ops listed = [] → Q .normal a w := by
    intro R listed s a w logs hsort hlt hls hl hrun hr hN hnil
    by_cases hne : R = []
    · subst hne
      simp only [runIs] at hrun
      cases hrun
      exact hQ a w hr hN
    · exact absurd hnil (hready R listed hne hsort hlt hls hl)
  intro fuel
  induction fuel with
  | zero =>
    intro R listed s a w logs hlen hsort hlt hls hl hcl hrun hind hr hN
    have : R = [] := List.length_eq_zero_iff.1 (by omega)
    subst this
    have hnil : Region.ready .any ops listed = [] := by
      cases hq : Region.ready .any ops listed with
      | nil => rfl
      | cons i r =>
        exfalso
        have hi : i ∈ Region.ready .any ops listed := by rw [hq]; simp [put_sl, put_rt, putR_sl, putR_rt]
        obtain ⟨h1, o, h2, _⟩ := mem_ready.1 hi
        have := (hl i (Array.getElem?_eq_some_iff.1 h2).1).1 h1
        simp [put_sl, put_rt, putR_sl, putR_rt] at this
    exact ⟨hnil, hdone [] listed s a w logs hsort hlt hls hl hrun hr hN hnil⟩
  | succ fuel ih =>
    intro R listed s a w logs hlen hsort hlt hls hl hcl hrun hind hr hN
    refine ⟨fun hnil => hdone R listed s a w logs hsort hlt hls hl hrun hr hN hnil, fun i hi => ?_⟩
    obtain ⟨h1, o, h2, h3⟩ := mem_ready.1 hi
    have hilt := (Array.getElem?_eq_some_iff.1 h2).1
    have hiR := (hl i hilt).1 h1
    obtain ⟨A, B, rfl⟩ := List.append_of_mem hiR
    -- those ahead of it in the list leave it alone
    have hpre : ∀ e ∈ o.after, Region.binds .any e = true → e.on ∉ A ++ i :: B := by
      intro e he hb hm
      have := h3 e he hb
      have hlt' := hlt e.on hm
      have h4 := (hl e.on hlt').2 hm
      have hle : e.on < listed.size := by omega
      simp [put_sl, put_rt, putR_sl, putR_rt, Array.getD, hle] at this h4
      rw [this] at h4; cases h4
    have hah := hahead (A ++ i :: B) i hcl (fun o' ho' => by rw [h2] at ho'; cases ho'; exact hpre)
    have hA : ∀ j, j ∈ A → j < i := fun j hj => (List.pairwise_append.1 hsort).2.2 j hj i (by simp [put_sl, put_rt, putR_sl, putR_rt])
    have hfst := runIs_fst _ _ _ _ hrun
    obtain ⟨s1, x, logs', g1, g2, g3, g4⟩ := bubble A i B s s' logs hrun (fun p q hp hq hpA hqi => by
      rcases hind p q hp hq (by rw [hqi]; exact hA _ hpA) with h | h
      · rw [hqi] at h
        exact absurd (List.mem_append_left _ hpA) (hah p.1 h)
      · exact h)
    unfold stepI at g1
    rw [h2] at g1
    obtain ⟨⟨e, l'⟩, r1, q1⟩ := Option.map_eq_some_iff.1 g1
    cases q1
    have hdup : i ∉ A ++ B := by
      intro hm
      rcases List.mem_append.1 hm with hm | hm
      · have := hA i hm; omega
      · have := List.rel_of_pairwise_cons (List.pairwise_append.1 hsort).2.1 hm; omega
    refine opG_sound H hC h2 r1 hr (fun t ht => by rw [hN]; exact hdst i o h2 t ht) fun a' w' hr' hsz => ?_
    refine ih (A ++ B) (listed.setIfInBounds i true) _ a' w' logs' ?_ ?_ ?_ (by simpa using hls) ?_ ?_ g2 ?_ hr' (by rw [hsz]; exact hN)
    · simp [put_sl, put_rt, putR_sl, putR_rt] at hlen ⊢; omega
    · exact hsort.sublist (List.Sublist.append (List.Sublist.refl A) (List.sublist_cons_self i B))
    · intro j hj
      rcases List.mem_append.1 hj with hj | hj
      · exact hlt j (by simp [put_sl, put_rt, putR_sl, putR_rt, hj])
      · exact hlt j (by simp [put_sl, put_rt, putR_sl, putR_rt, hj])
    · intro j hj
      by_cases hij : i = j
      · subst hij
        have hle : i < listed.size := by omega
        simp [put_sl, put_rt, putR_sl, putR_rt, Array.getD, hle]
        exact ⟨fun hm => hdup (List.mem_append_left _ hm), fun hm => hdup (List.mem_append_right _ hm)⟩
      · rw [getD_set_ne true hij, hl j hj]
        simp only [List.mem_append, List.mem_cons]
        constructor
        · rintro (h | h | h)
          · exact .inl h
          · exact absurd h.symm hij
          · exact .inr h
        · rintro (h | h)
          · exact .inl h
          · exact .inr (.inr h)
    · intro j o' ho' hj e he hb hm
      have hm' : e.on ∈ A ++ i :: B := by
        rcases List.mem_append.1 hm with hm | hm <;> simp [put_sl, put_rt, putR_sl, putR_rt, hm]
      by_cases hij : j = i
      · subst hij
        rw [h2] at ho'; cases ho'
        exact hpre e he hb hm'
      · refine hcl j o' ho' (fun h => hj ?_) e he hb hm'
        rcases List.mem_append.1 h with h | h
        · simp [put_sl, put_rt, putR_sl, putR_rt, h]
        · rcases List.mem_cons.1 h with h | h
          · exact absurd h hij
          · simp [put_sl, put_rt, putR_sl, putR_rt, h]
    · exact fun p q hp hq hpq => hind p q (g4 p hp) (g4 q hq) hpq

/-- in the order of the text -/
theorem text_sound (H : OpSound P E) (hC : C.gl = Gl P) {N : Nat} {s' : St} (hQ : ∀ a w, RelE C s' a w → a.tmps.size = N → Q .normal a w) (hdst : ∀ (i : Nat) (o : Oper), ops[i]? = some o → ∀ t, o.dst = some t → t < N ∧ C.fix t = none) :
    ∀ (R : List Nat) (s : St) (a : Act) (w : World) (logs : List (Nat × (List Nat × List Nat))), runIs E n ops R s = some (s', logs) → RelE C s a w → a.tmps.size = N → wpOps P ops Q R a w
  | [], s, a, w, logs, h, hr, hN => by
    simp only [runIs] at h; cases h
    simp only [wpOps]
    exact hQ a w hr hN
  | i :: R, s, a, w, logs, h, hr, hN => by
    simp only [runIs] at h
    obtain ⟨⟨s1, x⟩, h1, h2⟩ := Option.bind_eq_some_iff.1 h
    obtain ⟨⟨s2, lg⟩, h3, h4⟩ := Option.map_eq_some_iff.1 h2
    cases h4
    unfold stepI at h1
    cases ho : ops[i]? with
    | none => rw [ho] at h1; cases h1
    | some o =>
      rw [ho] at h1
      obtain ⟨⟨e, l'⟩, r1, q1⟩ := Option.map_eq_some_iff.1 h1
      cases q1
      rw [wpOps_cons]
      exact opG_sound H hC ho r1 hr (fun t ht => by rw [hN]; exact hdst i o ho t ht) fun a' w' hr' hsz => text_sound H hC hQ hdst R _ a' w' lg h3 hr' (by rw [hsz]; exact hN)

/-- what 'evOps' came to -/
theorem evOps_run {γ : Type} {draw : Bool} {k : St → Option γ} {g : γ} : ∀ (r : List Oper) (j : Nat) (logs : List (List Nat × List Nat)) (s : St), ops.toList.drop j = r → evOps E n ops draw r logs s k = some g →
    ∃ s' logs', runIs E n ops (List.range' j r.length) s = some (s', logs') ∧ k s' = some g ∧ (draw = true → okLog ops.toList (logs ++ logs'.map (·.2)) = true)
  | [], j, logs, s, _, h => by
    simp only [evOps] at h
    cases draw with
    | true =>
      simp only [cond_true] at h
      cases hok : okLog ops.toList logs with
      | false => rw [hok] at h; cases h
      | true => rw [hok] at h; exact ⟨s, [], rfl, h, fun _ => by simpa using hok⟩
    | false => exact ⟨s, [], rfl, h, fun h => by cases h⟩
  | o :: r, j, logs, s, hd, h => by
    simp only [evOps] at h
    rw [Rd.ev_run] at h
    obtain ⟨⟨e, l⟩, h1, h2⟩ := Option.bind_eq_some_iff.1 h
    have ho : ops[j]? = some o := by
      have : (ops.toList.drop j)[0]? = some o := by rw [hd]; rfl
      rw [List.getElem?_drop] at this
      simpa using this
    have hd' : ops.toList.drop (j + 1) = r := by
      have : (ops.toList.drop j).drop 1 = r := by rw [hd]; rfl
      rwa [List.drop_drop] at this
    obtain ⟨s', logs', g1, g2, g3⟩ := evOps_run r (j + 1) _ _ hd' h2
    refine ⟨s', (j, (wrote o e, l)) :: logs', ?_, g2, fun hdr => by simpa using g3 hdr⟩
    simp only [List.length_cons, List.range'_succ, runIs, stepI, ho, h1, Option.map_some, Option.bind_some]
    simp only [] at g1
    rw [g1]; rfl

/-! ### The look at the logs -/
theorem testBit_one (m i : Nat) : Nat.beq (Nat.land (Nat.shiftRight m i) 1) 1 = m.testBit i := by
  have : Nat.land (Nat.shiftRight m i) 1 = (m >>> i) &&& 1 := rfl
  rw [this, Nat.testBit, Nat.and_comm]
  have hlt : 1 &&& (m >>> i) < 2 := by
    rw [Nat.and_comm, Nat.and_one_is_mod]; exact Nat.mod_lt _ (by decide)
  cases h : 1 &&& (m >>> i) with
  | zero => rfl
  | succ k => cases k with
    | zero => rfl
    | succ k => rw [h] at hlt; omega

theorem edgesOk_spec : ∀ (l : List Oper) (i : Nat), edgesOk l i = true → ∀ (j : Nat) (o : Oper), l[j]? = some o → ∀ e ∈ o.after, Region.binds .any e = true → e.on < i + j
  | [], i, _, j, o, ho => by simp [put_sl, put_rt, putR_sl, putR_rt] at ho
  | x :: l, i, h, j, o, ho => by
    simp only [edgesOk, Bool.and_eq_true] at h
    cases j with
    | zero =>
      simp [put_sl, put_rt, putR_sl, putR_rt] at ho; subst ho
      intro e he hb
      have := List.all_eq_true.1 h.1 e (by simpa using he)
      rw [hb, Bool.not_true, Bool.false_or, Nat.blt_eq] at this
      omega
    | succ j =>
      intro e he hb
      have := edgesOk_spec l (i + 1) h.2 j o (by simpa using ho) e he hb
      omega

theorem aheads_get : ∀ (l : List Oper) (ms : List Nat) (j : Nat), j < ms.length → (aheads l ms)[j]? = ms[j]?
  | [], ms, j, h => rfl
  | o :: l, ms, j, h => by
    rw [aheads, aheads_get l _ j (by simp [put_sl, put_rt, putR_sl, putR_rt]; omega), List.getElem?_append_left h]

theorem aheadM_bit (ms : List Nat) (o : Oper) (i : Nat) (h : (aheadM ms o).testBit i = true) : ∃ e ∈ o.after, Region.binds .any e = true ∧ (e.on = i ∨ (ms.getD e.on 0).testBit i = true) := by
  unfold aheadM at h
  have key : ∀ (l : List Edge) (m : Nat), (l.foldl (fun m e => bif Region.binds .any e then Nat.lor (Nat.lor m (Nat.shiftLeft 1 e.on)) (ms.getD e.on 0) else m) m).testBit i = true →
      m.testBit i = true ∨ ∃ e ∈ l, Region.binds .any e = true ∧ (e.on = i ∨ (ms.getD e.on 0).testBit i = true) := by
    intro l
    induction l with
    | nil => intro m h; exact .inl h
    | cons e l ih =>
      intro m h
      rw [List.foldl_cons] at h
      rcases ih _ h with h | ⟨e', h1, h2⟩
      · cases hb : Region.binds .any e with
        | false => rw [hb] at h; exact .inl h
        | true =>
          rw [hb] at h
          have h' : ((m ||| (1 <<< e.on)) ||| (ms.getD e.on 0)).testBit i = true := h
          rw [Nat.testBit_or, Nat.testBit_or, Bool.or_eq_true, Bool.or_eq_true] at h'
          rcases h' with (h' | h') | h'
          · exact .inl h'
          · right
            refine ⟨e, by simp, hb, .inl ?_⟩
            rw [Nat.one_shiftLeft, Nat.testBit_two_pow] at h'
            simpa using h'
          · exact .inr ⟨e, by simp, hb, .inr h'⟩
      · exact .inr ⟨e', List.mem_cons_of_mem _ h1, h2⟩
  rcases key _ _ h with h | ⟨e, h1, h2⟩
  · simp [put_sl, put_rt, putR_sl, putR_rt] at h
  · exact ⟨e, by simpa using h1, h2⟩

/-- the ahead table's rows -/
theorem aheads_row : ∀ (l : List Oper) (ms : List Nat) (j : Nat) (o : Oper), l[j]? = some o → ∃ ms', ms'.length = ms.length + j ∧ (∀ k, k < ms'.length → (aheads l ms)[k]? = ms'[k]?) ∧ (aheads l ms)[ms.length + j]? = some (aheadM ms' o)
  | [], ms, j, o, h => by simp [put_sl, put_rt, putR_sl, putR_rt] at h
  | x :: l, ms, 0, o, h => by
    simp [put_sl, put_rt, putR_sl, putR_rt] at h; subst h
    refine ⟨ms, rfl, fun k hk => aheads_get _ ms k hk, ?_⟩
    rw [aheads, aheads_get l _ _ (by simp [put_sl, put_rt, putR_sl, putR_rt])]
    simp [put_sl, put_rt, putR_sl, putR_rt]
  | x :: l, ms, j + 1, o, h => by
    obtain ⟨ms', h1, h2, h3⟩ := aheads_row l (ms ++ [aheadM ms x]) j o (by simpa using h)
    refine ⟨ms', by rw [h1]; simp [put_sl, put_rt, putR_sl, putR_rt]; omega, fun k hk => by rw [aheads]; exact h2 k hk, ?_⟩
    rw [aheads]
    rw [show ms.length + (j + 1) = (ms ++ [aheadM ms x]).length + j by simp [put_sl, put_rt, putR_sl, putR_rt]; omega]
    exact h3

/-- Whatever stands ahead of a ready operation is done. -/
theorem ahead_done (hok : edgesOk ops.toList 0 = true) (R : List Nat) (hcl : ∀ j o, ops[j]? = some o → j ∉ R → ∀ e ∈ o.after, Region.binds .any e = true → e.on ∉ R) :
    ∀ (i : Nat) (o : Oper), ops[i]? = some o → (∀ e ∈ o.after, Region.binds .any e = true → e.on ∉ R) → ∀ j, ((aheads ops.toList []).getD i 0).testBit j = true → j ∉ R := by
  intro i
  induction i using Nat.strongRecOn with
  | ind i ih =>
    intro o ho hpre j hj
    obtain ⟨ms', h1, h2, h3⟩ := aheads_row ops.toList [] i o (by simpa using ho)
    simp only [List.length_nil, Nat.zero_add] at h1 h3
    rw [List.getD_eq_getElem?_getD, h3] at hj
    obtain ⟨e, he, hb, hor⟩ := aheadM_bit ms' o j hj
    have hlt := edgesOk_spec ops.toList 0 hok i o (by simpa using ho) e he hb
    rcases hor with rfl | hor
    · exact hpre e he hb
    · have hone : e.on < ops.size := by
        have := (Array.getElem?_eq_some_iff.1 ho).1; omega
      have hnR := hpre e he hb
      refine ih e.on (by omega) ops[e.on] (Array.getElem?_eq_getElem hone) (hcl e.on _ (Array.getElem?_eq_getElem hone) hnR) j ?_
      rw [List.getD_eq_getElem?_getD, h2 e.on (by omega), ← List.getD_eq_getElem?_getD]
      exact hor

theorem pairsOk_spec (m : Nat) (x : List Nat × List Nat) : ∀ (l : List (List Nat × List Nat)) (i : Nat), pairsOk m x l i = true → ∀ (j : Nat) (y : List Nat × List Nat), l[j]? = some y → m.testBit (i + j) = true ∨ indep y x = true
  | [], i, _, j, y, h => by simp [put_sl, put_rt, putR_sl, putR_rt] at h
  | b :: l, i, h, j, y, hy => by
    simp only [pairsOk, Bool.and_eq_true, Bool.or_eq_true] at h
    cases j with
    | zero =>
      simp [put_sl, put_rt, putR_sl, putR_rt] at hy; subst hy
      rw [testBit_one] at h
      simpa using h.1
    | succ j =>
      have := pairsOk_spec m x l (i + 1) h.2 j y (by simpa using hy)
      rwa [show i + 1 + j = i + (j + 1) by omega] at this

theorem allPairs_spec (ms : List Nat) : ∀ (l done : List (List Nat × List Nat)) (j : Nat), done.length = j → allPairs ms done l j = true →
    ∀ (p q : Nat) (x y : List Nat × List Nat), p < q → (done ++ l)[p]? = some x → (done ++ l)[q]? = some y → j ≤ q → (ms.getD q 0).testBit p = true ∨ indep x y = true
  | [], done, j, hj, _, p, q, x, y, hpq, hx, hy, hq => by
    have := (List.getElem?_eq_some_iff.1 hy).1
    simp [put_sl, put_rt, putR_sl, putR_rt] at this; omega
  | a :: l, done, j, hj, h, p, q, x, y, hpq, hx, hy, hq => by
    simp only [allPairs, Bool.and_eq_true] at h
    by_cases hqj : q = j
    · subst hqj
      rw [List.getElem?_append_right (by omega), hj, Nat.sub_self] at hy
      simp [put_sl, put_rt, putR_sl, putR_rt] at hy; subst hy
      rw [List.getElem?_append_left (by omega)] at hx
      have := pairsOk_spec _ _ _ _ h.1 p x hx
      simpa using this
    · exact allPairs_spec ms l (done ++ [a]) (j + 1) (by simp [put_sl, put_rt, putR_sl, putR_rt, hj]) h.2 p q x y hpq (by simpa using hx) (by simpa using hy) (by omega)

theorem keep_drew {w : World} {S : Fp} {rt : Nat → RSt} {rv : Nat → Value} {w' : World} (hh : w'.heap = w.heap) : Keep w S rt rv w' S rt rv := by
  have hcell : ∀ a, w'.cell? a = w.cell? a := fun a => by simp only [World.cell?, hh]
  have hwalk : ∀ (p : List Step) (τ : Ty) (b o : Nat), walk w' τ b o p = walk w τ b o p := by
    intro p
    induction p with
    | nil => intro τ b o; simp [put_sl, put_rt, putR_sl, putR_rt, walk]
    | cons st p ih =>
      intro τ b o
      cases st with
      | fl k =>
        have e : ∀ w, walk w τ b o (.fl k :: p) = match τ.fldOff k with | some (σ, δ) => walk w σ b (o + δ) p | none => none := by intro w; cases τ <;> rfl
        rw [e, e]
        split
        · exact ih _ _ _
        · rfl
      | ix i => cases τ <;> simp only [walk, hcell, ih]
  refine ⟨fun _ h => h, fun _ _ => by rw [hh], fun _ _ => rfl, fun _ h => h, fun id r h _ => .inl ⟨r, h, rfl, fun _ => rfl, Nat.le_refl _, fun _ p σ b o _ hw => ⟨?_, fun _ e v _ hc => by rw [hcell]; exact hc⟩⟩, fun id r q h _ => ⟨r, .inr ⟨q, h⟩, rfl, Nat.le_refl _⟩, fun _ _ _ h _ => .inl h, fun _ _ c h _ => ⟨c, h⟩⟩
  rw [← hw]
  match p with
  | [] => rfl
  | .fl _ :: _ => rfl
  | .ix i :: p =>
    simp only [walkV]
    split
    · rw [hwalk]
    · rfl

theorem mem_drew {C : Ctx} {rt : Nat → RSt} {rv : Nat → Value} {F : Nat → Fp} {S G : Fp} {w w' : World} (m : Mem C rt rv F S G w) (hh : w'.heap = w.heap) (hs : Same w w') : Mem C rt rv F S G w' where
  live := fun id r h => rep_frame (fun _ h => h) (fun _ _ => by rw [hh]) (fun _ _ => by rw [hh]) (m.live id r h)
  frz := fun id τ xs h => rep_frame (fun _ h => h) (fun _ _ => by rw [hh]) (fun _ _ => by rw [hh]) (m.frz id τ xs h)
  box := fun id σ c h => by
    obtain ⟨b, arr, q1, q2, q3, q4, q6⟩ := m.box id σ c h
    exact ⟨b, arr, q1, q2.of_eq (by rw [hh]), q3, q4, BRep_keep (keep_drew hh) _ _ _ q6⟩
  hole := fun id r q h => (m.hole id r q h).frame (fun _ => Iff.rfl) (fun _ h => h) (by rw [hh]; exact Nat.le_refl _) (fun _ _ => by rw [hh])
  none := m.none
  dis := m.dis
  sep := m.sep
  gsep := m.gsep
  glt := by rw [hh]; exact m.glt
  slt := by rw [hh]; exact m.slt
  same := m.same.trans hs
  size := by rw [hh]; exact m.size
  frame := by rw [hh]; exact m.frame
  own := m.own
  s0 := m.s0
  shr := m.shr
  ok := m.ok

theorem RelE_drew {s : St} {a : Act} {w w' : World} (h : RelE C s a w) (hh : w'.heap = w.heap) (hs : Same w w') : RelE C s a w' := by
  obtain ⟨⟨rv, F, S, G, m, hsl⟩, hd⟩ := h
  exact ⟨⟨rv, F, S, G, mem_drew m hh hs, fun i => RSV_keep (keep_drew hh) _ _ (hsl i)⟩, hd⟩

/-- A region. -/
theorem region_sound (H : OpSound P E) (hC : C.gl = Gl P) (hm : P.follows .mixedOrders = true) {N id : Nat} {draw : Bool} {γ : Type} {k : St → Option γ} {g : γ} {s : St} {a : Act} {w : World}
    (hdst : ∀ (i : Nat) (o : Oper), ops[i]? = some o → ∀ t, o.dst = some t → t < N ∧ C.fix t = none) (h : evOps E n ops draw ops.toList [] s k = some g) (hr : RelE C s a w) (hN : a.tmps.size = N)
    (hQ : ∀ s' a w, k s' = some g → RelE C s' a w → a.tmps.size = N → Q .normal a w) : (Code.region id ops draw).wp P Q a w := by
  obtain ⟨s', logs, h1, h2, h3⟩ := evOps_run ops.toList 0 [] s rfl h
  have hrange : List.range' 0 ops.toList.length = List.range ops.size := by rw [List.range_eq_range']; simp [put_sl, put_rt, putR_sl, putR_rt]
  rw [hrange] at h1
  cases draw with
  | false => exact wp_region (text_sound H hC (fun a w hr hN => hQ s' a w h2 hr hN) hdst _ s a w logs h1 hr hN)
  | true =>
    have hlog := h3 rfl
    simp only [okLog, Bool.and_eq_true, List.nil_append] at hlog
    obtain ⟨hedge, hpairs⟩ := hlog
    have hfst := runIs_fst _ _ _ _ h1
    have hedge' : ∀ (i : Nat) (o : Oper), ops[i]? = some o → ∀ e ∈ o.after, Region.binds .any e = true → e.on < i := fun i o ho e he hb => by
      have := edgesOk_spec ops.toList 0 hedge i o (by simpa using ho) e he hb
      omega
    refine wp_region_any hm ?_
    refine any_sound H hC (N := N) (s' := s') (fun a w hr hN => hQ s' a w h2 hr hN) hdst hedge' (fun i j => ((aheads ops.toList []).getD i 0).testBit j = true) ?_ ops.size (List.range ops.size) _ s a _ logs (by simp [put_sl, put_rt, putR_sl, putR_rt]) List.pairwise_lt_range
      (fun i hi => List.mem_range.1 hi) (by simp [put_sl, put_rt, putR_sl, putR_rt]) ?_ ?_ h1 ?_ (RelE_drew hr rfl ⟨rfl, rfl, rfl⟩) hN
    · intro R i hcl hpre j hj
      by_cases hi : i < ops.size
      · exact ahead_done hedge R hcl i ops[i] (Array.getElem?_eq_getElem hi) (hpre _ (Array.getElem?_eq_getElem hi)) j hj
      · exfalso
        have hlen : ∀ (l : List Oper) (ms : List Nat), (aheads l ms).length = ms.length + l.length := by
          intro l
          induction l with
          | nil => intro ms; rfl
          | cons o l ih => intro ms; rw [aheads, ih]; simp [put_sl, put_rt, putR_sl, putR_rt]; omega
        have h0 : (aheads ops.toList []).getD i 0 = 0 := by
          rw [List.getD_eq_getElem?_getD, List.getElem?_eq_none (by rw [hlen]; simp [put_sl, put_rt, putR_sl, putR_rt]; omega)]; rfl
        rw [h0] at hj
        simp [put_sl, put_rt, putR_sl, putR_rt] at hj
    · intro i hi
      simp [put_sl, put_rt, putR_sl, putR_rt, Array.getD, hi]
    · intro j o ho hj
      exact absurd (List.mem_range.2 (Array.getElem?_eq_some_iff.1 ho).1) hj
    · intro p q hp hq hpq
      have hget : ∀ p, p ∈ logs → (logs.map (·.2))[p.1]? = some p.2 := by
        intro p hp
        obtain ⟨i, hi, rfl⟩ := List.mem_iff_getElem.1 hp
        have hfi : logs[i].1 = i := by
          have h' : (logs.map (·.1))[i]? = some logs[i].1 := by simp [put_sl, put_rt, putR_sl, putR_rt, hi]
          rw [hfst, List.getElem?_range (by have := congrArg List.length hfst; simp [put_sl, put_rt, putR_sl, putR_rt] at this; omega)] at h'
          simpa using h'.symm
        rw [hfi]
        simp [put_sl, put_rt, putR_sl, putR_rt, hi]
      exact allPairs_spec _ _ [] 0 rfl hpairs p.1 q.1 p.2 q.2 hpq (by simpa using hget p hp) (by simpa using hget q hq) (Nat.zero_le _)
end
end Go.Abs
set_option linter.unusedVariables false
set_option linter.unusedSimpArgs false
set_option linter.unnecessarySimpa false
set_option linter.unusedSectionVars false
namespace Go.Abs
open Go

mutual
/-- The value bears the argument; F: the blocks that are handed over with it. -/
def Arg (w : World) (S : Fp) : (p : Par) → DL p.ins → Value → Fp → Prop
  | .val τ, x, v, F => (∃ cs, rep w S τ 0 x cs (fun _ => False) ∧ v = τ.wrap cs) ∧ ∀ b, ¬ F b
  | .own d τ, x, v, F => rep w S (.list τ) (d + 1) x [v] F
  | .io d τ, x, v, F => rep w S (.list τ) (d + 1) x [v] F
  | .box d τ, x, v, F => ∃ b arr F', v = .pointer (some ⟨b, 0, none⟩) ∧ Own 1 w b arr ∧ arr.size = τ.size ∧ rep w S τ d x arr.toList F' ∧ ¬ F' b ∧ ∀ b', F b' ↔ b' = b ∨ F' b'
  | .agg p, x, v, F => ∃ us, v = .agg (us.flatMap fun u : Value => u.cells.toList).toArray ∧ ArgL w S p x us F
  | .fn f p, x, v, F => ∃ us, v = .func (.func f) #[] us.toArray ∧ ArgL w S p x us F
  | .any k, _, v, F => v.cells.toList.length = k ∧ ∀ b, ¬ F b
  | .skip, _, v, F => ∀ b, ¬ F b
  | .nil, _, _, _ => False
  | .cons _ _, _, _, _ => False
def ArgL (w : World) (S : Fp) : (p : Par) → DL p.ins → List Value → Fp → Prop
  | .nil, _, us, F => us = [] ∧ ∀ b, ¬ F b
  | .cons a b, x, us, F => ∃ u us' F1 F2, us = u :: us' ∧ Arg w S a (DL.left x) u F1 ∧ ArgL w S b (DL.right x) us' F2 ∧ Disj F1 F2 ∧ ∀ b, F b ↔ F1 b ∨ F2 b
  | _, _, _, _ => False
end

theorem DL.head_cons {τ : Ty} : ∀ {r : List Ty} {x : τ.den} {y : DL r}, DL.head (DL.cons x y) = x
  | [], _, _ => rfl
  | _ :: _, _, _ => rfl
theorem DL.tail_cons {τ : Ty} : ∀ {r : List Ty} {x : τ.den} {y : DL r}, DL.tail (DL.cons x y) = y
  | [], _, () => rfl
  | _ :: _, _, _ => rfl
theorem DL.left_app : ∀ {a b : List Ty} {x : DL a} {y : DL b}, DL.left (DL.app x y) = x
  | [], _, (), _ => rfl
  | [τ], b, x, y => by
    show DL.cons (DL.head (DL.cons (DL.head x) (DL.app (DL.tail x) y))) _ = x
    rw [DL.head_cons]
    rfl
  | τ :: σ :: a, b, x, y => by
    show DL.cons (DL.head (DL.cons (DL.head x) (DL.app (DL.tail x) y))) (DL.left (DL.tail (DL.cons (DL.head x) (DL.app (DL.tail x) y)))) = x
    rw [DL.head_cons, DL.tail_cons, DL.left_app (a := σ :: a)]
    rfl
theorem DL.right_app : ∀ {a b : List Ty} {x : DL a} {y : DL b}, DL.right (DL.app x y) = y
  | [], _, _, _ => rfl
  | _ :: a, b, x, y => by
    simp only [DL.app, DL.right, DL.tail_cons]
    exact DL.right_app (a := a)

section
variable {C : Ctx} {s : St} {rv : Nat → Value} {F : Nat → Fp} {S G : Fp} {w : World} {P : Program} {E : Env} {a : Act}

mutual
theorem Arg_mono {S S' : Fp} (h : ∀ b, S b → S' b) : ∀ {p : Par} {x : DL p.ins} {v : Value} {F : Fp}, Arg w S p x v F → Arg w S' p x v F
  | .val τ, x, v, F, k => by
    simp only [Arg] at k ⊢
    obtain ⟨⟨cs, k1, k2⟩, k3⟩ := k
    exact ⟨⟨cs, rep_mono h k1, k2⟩, k3⟩
  | .own d τ, x, v, F, k => by simp only [Arg] at k ⊢; exact rep_mono h k
  | .io d τ, x, v, F, k => by simp only [Arg] at k ⊢; exact rep_mono h k
  | .box d τ, x, v, F, k => by
    simp only [Arg] at k ⊢
    obtain ⟨b, arr, F', k1, k2, k3, k4, k5⟩ := k
    exact ⟨b, arr, F', k1, k2, k3, rep_mono h k4, k5⟩
  | .agg p, x, v, F, k => by
    simp only [Arg] at k ⊢
    obtain ⟨us, k1, k2⟩ := k
    exact ⟨us, k1, ArgL_mono h k2⟩
  | .fn f p, x, v, F, k => by
    simp only [Arg] at k ⊢
    obtain ⟨us, k1, k2⟩ := k
    exact ⟨us, k1, ArgL_mono h k2⟩
  | .any n, x, v, F, k => by simp only [Arg] at k ⊢; exact k
  | .skip, x, v, F, k => by simp only [Arg] at k ⊢; exact k
  | .nil, x, v, F, k => by simp [Arg] at k
  | .cons _ _, x, v, F, k => by simp [Arg] at k
theorem ArgL_mono {S S' : Fp} (h : ∀ b, S b → S' b) : ∀ {p : Par} {x : DL p.ins} {us : List Value} {F : Fp}, ArgL w S p x us F → ArgL w S' p x us F
  | .nil, x, us, F, k => by simp only [ArgL] at k ⊢; exact k
  | .cons a b, x, us, F, k => by
    simp only [ArgL] at k ⊢
    obtain ⟨u, us', F1, F2, k1, k2, k3, k4, k5⟩ := k
    exact ⟨u, us', F1, F2, k1, Arg_mono h k2, ArgL_mono h k3, k4, k5⟩
  | .val _, _, _, _, k | .own _ _, _, _, _, k | .io _ _, _, _, _, k | .box _ _, _, _, _, k | .agg _, _, _, _, k | .fn _ _, _, _, _, k | .any _, _, _, _, k | .skip, _, _, _, k => by simp [ArgL] at k
end

/-- lent -/
theorem lend_sound (m : Mem C s.rt rv F S G w) : ∀ (τ : Ty) (sv : SV) (l l' : List Nat) (x : τ.den) (ls : List Nat) (v : Value),
    (lend τ sv).run s l = some ((x, ls), l') → RSV w S s.rt rv sv v →
    rep w (fun b => S b ∨ ∃ i ∈ ls, F i b) τ 0 x v.cells.toList (fun _ => False) ∧ v = τ.wrap v.cells.toList ∧ ∀ i ∈ ls, (∃ r, s.rt i = .live r) ∨ ∀ b, ¬ F i b := by
  have plain : ∀ (τ σ : Ty) (y : σ.den) (l l' : List Nat) (x : τ.den) (ls : List Nat) (v : Value),
      (match toTy τ ⟨σ, y⟩ with | some y => Rd.ret (y, ([] : List Nat)) | none => .fail).run s l = some ((x, ls), l') → RSV w S s.rt rv (.val σ y) v →
      rep w (fun b => S b ∨ ∃ i ∈ ls, F i b) τ 0 x v.cells.toList (fun _ => False) ∧ v = τ.wrap v.cells.toList ∧ ∀ i ∈ ls, (∃ r, s.rt i = .live r) ∨ ∀ b, ¬ F i b := by
    intro τ σ y l l' x ls v h hv
    split at h
    · rename_i z hz
      have e := toTy_some hz
      cases e
      have := ret_some h; cases this
      simp only [RSV] at hv
      obtain ⟨cs, h1, rfl⟩ := hv
      rw [wrap_cells h1]
      exact ⟨rep_mono (fun b hb => .inl hb) h1, rfl, fun i hi => by cases hi⟩
    · exact (fail_some h).elim
  intro τ
  induction τ with
  | int k => intro sv l l' x ls v h hv; cases sv <;> simp only [lend] at h <;> first | exact plain _ _ _ _ _ _ _ _ h hv | exact (fail_some h).elim
  | bool => intro sv l l' x ls v h hv; cases sv <;> simp only [lend] at h <;> first | exact plain _ _ _ _ _ _ _ _ h hv | exact (fail_some h).elim
  | str => intro sv l l' x ls v h hv; cases sv <;> simp only [lend] at h <;> first | exact plain _ _ _ _ _ _ _ _ h hv | exact (fail_some h).elim
  | list e _ =>
    intro sv l l' x ls v h hv
    cases sv with
    | val σ y => simp only [lend] at h; exact plain _ _ _ _ _ _ _ _ h hv
    | nil =>
      simp only [lend] at h
      have := ret_some h; cases this
      simp only [RSV] at hv
      obtain ⟨A, rfl⟩ := hv
      exact ⟨.inl ⟨⟨A, rfl⟩, rfl, fun _ h => h⟩, rfl, fun i hi => by cases hi⟩
    | «at» id ver p =>
      simp only [lend] at h
      obtain ⟨y, l1, h1, h2⟩ := run_bind_some h
      split at h2
      · rename_i z hz
        have e' := toTy_some hz
        subst e'
        simp only [Rd.run] at h2
        -- whose blocks
        simp only [content, Rd.run] at h1
        have hv' := hv
        simp only [RSV, RAt] at hv
        cases hr : s.rt id with
        | none => rw [hr] at h1; exact (fail_some h1).elim
        | dead => rw [hr] at h1; exact (fail_some h1).elim
        | box _ _ => rw [hr] at h1; exact (fail_some h1).elim
        | hole _ _ => rw [hr] at h1; exact (fail_some h1).elim
        | frz τ xs =>
          rw [hr] at h1 hv h2
          have := ret_some h2; cases this
          simp only at h1
          split at h1
          · have := ret_some h1; cases this
            obtain rfl := hv rfl
            have h0 := m.frz id _ _ hr
            obtain ⟨A, c, e⟩ := root_slice h0
            rw [e] at h0 ⊢
            exact ⟨rep_mono (fun b hb => .inl hb) h0, rfl, fun i hi => by cases hi⟩
          · exact (fail_some h1).elim
        | live r =>
          rw [hr] at h1 hv h2
          have := ret_some h2; cases this
          simp only at h1
          cases hc : Nat.beq (nix p) 0 || Nat.beq r.ver ver with
          | false => rw [hc] at h1; exact (fail_some h1).elim
          | true =>
            rw [hc] at h1
            simp only [cond_true] at h1
            split at h1
            · rename_i y' hy
              have := ret_some h1; cases this
              by_cases hp : nix p = 0
              · obtain ⟨rfl, rfl⟩ := hv.2.1 hp
                simp only [getP] at hy
                cases hy
                have h0 := m.live id _ hr
                obtain ⟨A, c, e⟩ := root_slice h0
                rw [e] at h0 ⊢
                exact ⟨rep_mono (fun b hb => hb.imp (fun h => h) fun hb => ⟨id, by simp, hb⟩) (rep_freeze h0), rfl, fun i hi => by simp at hi; subst hi; exact .inl ⟨_, hr⟩⟩
              · have hver : r.ver = ver := by
                  rcases Bool.or_eq_true_iff.1 hc with hc | hc
                  · exact absurd (Nat.eq_of_beq_eq_true hc) hp
                  · exact Nat.eq_of_beq_eq_true hc
                obtain ⟨hn, e, b, o, hw, hcell⟩ := hv.2.2 hp hver
                obtain ⟨y, Fs, g1, g2, g3⟩ := view_rep m hr hn hw hcell
                rw [g1] at hy
                cases hy
                obtain ⟨A, c, e'⟩ := root_slice g3
                rw [e'] at g3 ⊢
                exact ⟨rep_mono (fun b hb => hb.imp (fun h => h) fun hb => ⟨id, by simp, g2 b hb⟩) (rep_freeze g3), rfl, fun i hi => by simp at hi; subst hi; exact .inl ⟨_, hr⟩⟩
            · exact (fail_some h1).elim
      · exact (fail_some h2).elim
    | _ => simp only [lend] at h; exact (fail_some h).elim
  | one f ih =>
    intro sv l l' x ls v h hv
    cases sv with
    | val σ y => simp only [lend] at h; exact plain _ _ _ _ _ _ _ _ h hv
    | agg vs =>
      match vs with
      | [] => simp only [lend] at h; exact (fail_some h).elim
      | [q] =>
        simp only [lend] at h
        simp only [RSV, RSVs] at hv
        obtain ⟨us, ⟨u, us', rfl, hu, rfl⟩, rfl⟩ := hv
        obtain ⟨g1, g2, g3⟩ := ih q l l' x ls u h hu
        refine ⟨?_, by simp [Ty.wrap, Ty.isAgg, Value.cells], g3⟩
        have hc : (Value.agg (List.flatMap (fun u : Value => u.cells.toList) [u]).toArray).cells.toList = u.cells.toList := by simp [Value.cells]
        rw [hc]
        exact g1
      | _ :: _ :: _ => simp only [lend] at h; exact (fail_some h).elim
    | _ => simp only [lend] at h; exact (fail_some h).elim
  | pair f r ihf ihr =>
    intro sv l l' x ls v h hv
    cases sv with
    | val σ y => simp only [lend] at h; exact plain _ _ _ _ _ _ _ _ h hv
    | agg vs =>
      match vs with
      | [] => simp only [lend] at h; exact (fail_some h).elim
      | q :: vs =>
        simp only [lend] at h
        obtain ⟨⟨y, t1⟩, l1, h1, h2⟩ := run_bind_some h
        obtain ⟨⟨z, t2⟩, l2, h3, h4⟩ := run_bind_some h2
        have := ret_some h4; cases this
        simp only [RSV, RSVs] at hv
        obtain ⟨us, ⟨u, us', rfl, hu, hus⟩, rfl⟩ := hv
        obtain ⟨g1, g2, g3⟩ := ihf q l _ y t1 u h1 hu
        obtain ⟨k1, k2, k3⟩ := ihr (.agg vs) _ _ z t2 (.agg (us'.flatMap fun u : Value => u.cells.toList).toArray) h3 (by simp only [RSV]; exact ⟨us', hus, rfl⟩)
        have hlen := rep_len g1
        have hc : (Value.agg (List.flatMap (fun u : Value => u.cells.toList) (u :: us')).toArray).cells.toList = u.cells.toList ++ us'.flatMap fun u : Value => u.cells.toList := by simp [Value.cells]
        refine ⟨⟨fun _ => False, fun _ => False, ?_, ?_, fun _ h => h.elim, fun b => by simp⟩, by simp [Ty.wrap, Ty.isAgg, Value.cells], fun i hi => (List.mem_append.1 hi).elim (g3 i) (k3 i)⟩
        · rw [hc, List.take_left' hlen]
          exact rep_mono (fun b hb => hb.imp (fun h => h) fun ⟨i, hi, hb⟩ => ⟨i, List.mem_append_left _ hi, hb⟩) g1
        · rw [hc, List.drop_left' hlen]
          have k1' : rep w (fun b => S b ∨ ∃ i ∈ t2, F i b) r 0 z (us'.flatMap fun u : Value => u.cells.toList) (fun _ => False) := k1
          exact rep_mono (fun b hb => hb.imp (fun h => h) fun ⟨i, hi, hb⟩ => ⟨i, List.mem_append_right _ hi, hb⟩) k1'
    | _ => simp only [lend] at h; exact (fail_some h).elim

/-- owned to another depth, where that says nothing new -/
theorem rep_depth {S : Fp} : ∀ {τ : Ty} {d d' : Nat} {x : τ.den} {cs : List Value} {F : Fp}, τ.deep ≤ d → τ.deep ≤ d' → rep w S τ d x cs F → rep w S τ d' x cs F
  | .int _, _, _, _, _, _, _, _, h => h
  | .bool, _, _, _, _, _, _, _, h => h
  | .str, _, _, _, _, _, _, _, h => h
  | .one f, _, _, _, _, _, k, k', h => rep_depth (τ := f) k k' h
  | .pair f r, _, _, _, _, _, k, k', h => by
    obtain ⟨F1, F2, h1, h2, h3, h4⟩ := h
    simp [Ty.deep] at k k'
    exact ⟨F1, F2, rep_depth (by omega) (by omega) h1, rep_depth (by omega) (by omega) h2, h3, h4⟩
  | .list e, d, d', _, _, _, k, k', h => by
    simp [Ty.deep] at k k'
    rcases h with h | ⟨b, o, c, arr, G, h1, h2, h3, h4, h5⟩
    · exact .inl h
    · refine .inr ⟨b, o, c, arr, G, h1, h2, h3, reps_imp h4 fun x cs G' _ _ h => rep_depth (by omega) (by omega) h, .inr ?_⟩
      obtain ⟨_, h5⟩ := h5.resolve_left (by omega)
      exact ⟨by omega, h5⟩

theorem depthOk_rep {S : Fp} {τ : Ty} {d k : Nat} {x : τ.den} {cs : List Value} {F : Fp} (h : depthOk τ d k = true) (r : rep w S τ k x cs F) : rep w S τ d x cs F := by
  unfold depthOk at h
  rcases Bool.or_eq_true_iff.1 h with h | h
  · rw [Nat.eq_of_beq_eq_true h]; exact r
  · rw [Bool.and_eq_true] at h
    exact rep_depth (Nat.le_of_ble_eq_true h.2) (Nat.le_of_ble_eq_true h.1) r

/-- What comes back at a place, laid there. -/
def IoBack (w : World) (S : Fp) (v0 : Value) (r : Root) (p : List Step) (d : Nat) (τ : Ty) (v : Value) (K : Fp) : Prop :=
  ∀ (w' : World) (S' : Fp) (y' : List τ.den) (Fs' : Fp), (∀ b, S b → S' b) → (∀ b, K b ∨ S b → w'.heap[b]? = w.heap[b]?) → rep w' S' (.list τ) (d + 1) y' [v] Fs' → Disj K Fs' →
    ∃ xs', setP (.list r.τ) r.xs p ⟨.list τ, y'⟩ = some xs' ∧ rep w' S' (.list r.τ) (r.d + 1) xs' [v0] (fun b => K b ∨ Fs' b)

mutual
/-- Where what comes back is laid; K: the blocks that the caller keeps. -/
def BackP (w : World) (S : Fp) (rt : Nat → RSt) (rv : Nat → Value) (K : Nat → Fp) : Par → Value → List (Nat × List Step) → Prop
  | .io d τ, v, bs => ∃ id p r, bs = [(id, p)] ∧ rt id = .live r ∧ (∃ A n c, v = .slice A n c) ∧ IoBack w S (rv id) r p d τ v (K id)
  | .box d τ, v, bs => ∃ id c b, bs = [(id, [])] ∧ rt id = .box τ c ∧ rv id = .pointer (some ⟨b, 0, none⟩) ∧ v = rv id ∧ ∀ b', ¬ K id b'
  | .fn f p, v, bs => ∃ us, v = .func (.func f) #[] us.toArray ∧ BackL w S rt rv K p us bs
  | .agg p, v, bs => ∃ us, v = .agg (us.flatMap fun u : Value => u.cells.toList).toArray ∧ p.aggOk = true ∧ BackL w S rt rv K p us bs
  | .any k, v, bs => bs = [] ∧ v.cells.toList.length = k
  | .skip, _, bs => bs = []
  | _, _, _ => False
def BackL (w : World) (S : Fp) (rt : Nat → RSt) (rv : Nat → Value) (K : Nat → Fp) : Par → List Value → List (Nat × List Step) → Prop
  | .nil, us, bs => us = [] ∧ bs = []
  | .cons a b, us, bs => ∃ u us' b1 b2, us = u :: us' ∧ bs = b1 ++ b2 ∧ BackP w S rt rv K a u b1 ∧ BackL w S rt rv K b us' b2
  | _, _, _ => False
end

mutual
theorem BackP_congr {rt : Nat → RSt} {K K' : Nat → Fp} : ∀ {q : Par} {v : Value} {bs : List (Nat × List Step)}, (∀ i ∈ bs.map (·.1), ∀ b, K' i b ↔ K i b) → BackP w S rt rv K q v bs → BackP w S rt rv K' q v bs
  | .io d τ, v, bs, hK, h => by
    simp only [BackP] at h ⊢
    obtain ⟨id, p, r, rfl, h1, h2, h3⟩ := h
    have hk := hK id (by simp)
    refine ⟨id, p, r, rfl, h1, h2, fun w' S' y' Fs' a1 a2 a3 a4 => ?_⟩
    obtain ⟨xs', g1, g2⟩ := h3 w' S' y' Fs' a1 (fun b hb => a2 b (hb.imp (hk b).2 fun h => h)) a3 (fun b hb => a4 b ((hk b).2 hb))
    exact ⟨xs', g1, rep_iff g2 fun b => by rw [hk b]⟩
  | .box d τ, v, bs, hK, h => by
    simp only [BackP] at h ⊢
    obtain ⟨id, c, b, rfl, h1, h2, h3, h4⟩ := h
    exact ⟨id, c, b, rfl, h1, h2, h3, fun b' hb => h4 b' ((hK id (by simp) b').1 hb)⟩
  | .fn f p, v, bs, hK, h => by
    simp only [BackP] at h ⊢
    obtain ⟨us, h1, h2⟩ := h
    exact ⟨us, h1, BackL_congr hK h2⟩
  | .agg p, v, bs, hK, h => by
    simp only [BackP] at h ⊢
    obtain ⟨us, h1, h0, h2⟩ := h
    exact ⟨us, h1, h0, BackL_congr hK h2⟩
  | .any k, v, bs, hK, h => by simp only [BackP] at h ⊢; exact h
  | .skip, v, bs, hK, h => by simp only [BackP] at h ⊢; exact h
  | .val _, v, bs, hK, h | .own _ _, v, bs, hK, h | .nil, v, bs, hK, h | .cons _ _, v, bs, hK, h => by simp [BackP] at h
theorem BackL_congr {rt : Nat → RSt} {K K' : Nat → Fp} : ∀ {q : Par} {us : List Value} {bs : List (Nat × List Step)}, (∀ i ∈ bs.map (·.1), ∀ b, K' i b ↔ K i b) → BackL w S rt rv K q us bs → BackL w S rt rv K' q us bs
  | .nil, us, bs, hK, h => by simp only [BackL] at h ⊢; exact h
  | .cons a b, us, bs, hK, h => by
    simp only [BackL] at h ⊢
    obtain ⟨u, us', b1, b2, rfl, rfl, h1, h2⟩ := h
    exact ⟨u, us', b1, b2, rfl, rfl, BackP_congr (fun i hi => hK i (by rw [List.map_append]; exact List.mem_append_left _ hi)) h1, BackL_congr (fun i hi => hK i (by rw [List.map_append]; exact List.mem_append_right _ hi)) h2⟩
  | .val _, us, bs, hK, h | .own _ _, us, bs, hK, h | .io _ _, us, bs, hK, h | .box _ _, us, bs, hK, h | .agg _, us, bs, hK, h | .fn _ _, us, bs, hK, h | .any _, us, bs, hK, h | .skip, us, bs, hK, h => by simp [BackL] at h
end

/-- What 'takeP' takes. -/
structure Took (w : World) (S : Fp) (F : Nat → Fp) (rt : Nat → RSt) (dead : RL) (back : List (Nat × List Step)) (lent : List Nat) (K : Nat → Fp) (Fa Sl : Fp) : Prop where
  nodup : (idsOf dead back).Nodup
  takes : Takes rt dead
  fa : ∀ b, Fa b → ∃ i ∈ idsOf dead back, F i b
  sl : ∀ b, Sl b → ∃ i ∈ ids dead, F i b
  apart : Disj Fa Sl
  frz : ∀ id τ xs, (id, .frz τ xs) ∈ dead → ∀ b, F id b → Sl b
  backs : ∀ i ∈ back.map (·.1), (∃ r, rt i = .live r) ∨ ∃ σ c, rt i = .box σ c
  lentA : ∀ b, Fa b → ∀ i ∈ lent, ¬ F i b
  kp : ∀ i b, K i b → i ∈ back.map (·.1) ∧ F i b ∧ ¬ Fa b

theorem Took.empty {rt : Nat → RSt} {ls : List Nat} : Took w S F rt [] [] ls (fun _ _ => False) (fun _ => False) (fun _ => False) :=
  ⟨List.nodup_nil, (fun _ _ h => nomatch h), fun _ h => h.elim, fun _ h => h.elim, fun _ h => h.elim, (fun _ _ _ h => nomatch h), (fun _ h => nomatch h), fun _ h => h.elim, fun _ _ h => h.elim⟩

theorem idsOf_app {d1 d2 : RL} {b1 b2 : List (Nat × List Step)} {i : Nat} : i ∈ idsOf (d1 ++ d2) (b1 ++ b2) ↔ i ∈ idsOf d1 b1 ∨ i ∈ idsOf d2 b2 := by
  simp only [idsOf, List.map_append, List.mem_append]
  constructor
  · rintro ((h | h) | (h | h))
    · exact .inl (.inl h)
    · exact .inr (.inl h)
    · exact .inl (.inr h)
    · exact .inr (.inr h)
  · rintro ((h | h) | (h | h))
    · exact .inl (.inl h)
    · exact .inr (.inl h)
    · exact .inl (.inr h)
    · exact .inr (.inr h)

mutual
theorem takeP_noOut : ∀ (p : Par) (sv : SV) (l l' : List Nat) (t : Tk p), p.hasOut = false → (takeP p sv).run s l = some (t, l') → t.back = []
  | .val τ, sv, l, l', t, ho, h => by
    have h' : ((lend τ sv).bind fun (x, l) => Rd.ret (⟨x, [], [], l⟩ : Tk (.val τ))).run s l = some (t, l') := by cases sv <;> exact h
    obtain ⟨⟨x, ls⟩, l1, h1, h2⟩ := run_bind_some h'
    have := ret_some h2; cases this; rfl
  | .own d τ, sv, l, l', t, ho, h => by
    cases sv with
    | nil => simp only [takeP] at h; have := ret_some h; cases this; rfl
    | «at» id ver p =>
      cases p with
      | cons _ _ => simp only [takeP] at h; exact (fail_some h).elim
      | nil =>
        simp only [takeP, liveS, Rd.run] at h
        cases hr : s.rt id <;> simp only [hr] at h <;> try exact (fail_some h).elim
        rename_i r
        have hc : (Nat.beq (nix []) 0 || Nat.beq r.ver ver) = true := rfl
        rw [hc] at h
        simp only [cond_true] at h
        split at h
        · cases hd : Nat.ble d r.d with
          | false => rw [hd] at h; exact (fail_some h).elim
          | true => rw [hd] at h; have := ret_some h; cases this; rfl
        · exact (fail_some h).elim
    | _ => simp only [takeP] at h; exact (fail_some h).elim
  | .io d τ, sv, l, l', t, ho, h => by simp [Par.hasOut] at ho
  | .box d τ, sv, l, l', t, ho, h => by simp [Par.hasOut] at ho
  | .agg p, sv, l, l', t, ho, h => by
    cases sv with
    | agg vs =>
      simp only [takeP] at h
      obtain ⟨h0, h⟩ := chk_some h
      obtain ⟨t', l1, h1, h2⟩ := run_bind_some h
      have := ret_some h2; cases this
      exact takeL_noOut p vs _ _ t' ho h1
    | _ => simp only [takeP] at h; exact (fail_some h).elim
  | .fn f p, sv, l, l', t, ho, h => by
    cases sv with
    | fn g vs =>
      simp only [takeP] at h
      cases hfg : Nat.beq f g with
      | false => rw [hfg] at h; exact (fail_some h).elim
      | true =>
        rw [hfg] at h
        obtain ⟨t', l1, h1, h2⟩ := run_bind_some h
        have := ret_some h2; cases this
        exact takeL_noOut p vs _ _ t' ho h1
    | _ => simp only [takeP] at h; exact (fail_some h).elim
  | .any k, sv, l, l', t, ho, h => by
    cases sv with
    | val τ x =>
      simp only [takeP] at h
      cases hk : Nat.beq k τ.size with
      | false => rw [hk] at h; exact (fail_some h).elim
      | true => rw [hk] at h; have := ret_some h; cases this; rfl
    | _ => simp only [takeP] at h; exact (fail_some h).elim
  | .skip, sv, l, l', t, ho, h => by
    have h' : (Rd.ret (⟨(), [], [], []⟩ : Tk .skip)).run s l = some (t, l') := by cases sv <;> exact h
    have := ret_some h'; cases this; rfl
  | .nil, sv, l, l', t, ho, h => by
    have h' : (Rd.fail : Rd (Tk .nil)).run s l = some (t, l') := by cases sv <;> exact h
    exact (fail_some h').elim
  | .cons a b, sv, l, l', t, ho, h => by
    have h' : (Rd.fail : Rd (Tk (.cons a b))).run s l = some (t, l') := by cases sv <;> exact h
    exact (fail_some h').elim
theorem takeL_noOut : ∀ (p : Par) (vs : List SV) (l l' : List Nat) (t : Tk p), p.hasOut = false → (takeP.takeL p vs).run s l = some (t, l') → t.back = []
  | .nil, vs, l, l', t, ho, h => by
    cases vs with
    | nil => simp only [takeP.takeL] at h; have := ret_some h; cases this; rfl
    | cons _ _ => simp only [takeP.takeL] at h; exact (fail_some h).elim
  | .cons p q, vs, l, l', t, ho, h => by
    cases vs with
    | nil => simp only [takeP.takeL] at h; exact (fail_some h).elim
    | cons v vs =>
      simp only [takeP.takeL] at h
      obtain ⟨t1, l1, h1, h2⟩ := run_bind_some h
      obtain ⟨t2, l2, h3, h4⟩ := run_bind_some h2
      obtain ⟨h5, h6⟩ := chk_some h4
      have := ret_some h6; cases this
      simp only [Par.hasOut, Bool.or_eq_false_iff] at ho
      show t1.back ++ t2.back = []
      rw [takeP_noOut p v _ _ t1 ho.1 h1, takeL_noOut q vs _ _ t2 ho.2 h3]; rfl
  | .val _, vs, l, l', t, ho, h | .own _ _, vs, l, l', t, ho, h | .io _ _, vs, l, l', t, ho, h | .box _ _, vs, l, l', t, ho, h | .agg _, vs, l, l', t, ho, h | .fn _ _, vs, l, l', t, ho, h
  | .any _, vs, l, l', t, ho, h | .skip, vs, l, l', t, ho, h => by simp only [takeP.takeL] at h; exact (fail_some h).elim
end

theorem depthOk_symm {τ : Ty} {d k : Nat} (h : depthOk τ d k = true) : depthOk τ k d = true := by
  unfold depthOk at h ⊢
  rcases Bool.or_eq_true_iff.1 h with h | h
  · rw [Nat.eq_of_beq_eq_true h]; simp
  · rw [Bool.and_comm] at h
    rw [h]; simp

/-- both ways in which what comes back is told -/
def Backs (w : World) (S : Fp) (rt : Nat → RSt) (rv : Nat → Value) (K : Nat → Fp) (p : Par) (v : Value) (bs : List (Nat × List Step)) : Prop :=
  BackP w S rt rv K p.outTop v bs ∧ (p.aggOk = true → BackP w S rt rv K p.outAgg v bs)
def BacksL (w : World) (S : Fp) (rt : Nat → RSt) (rv : Nat → Value) (K : Nat → Fp) (p : Par) (us : List Value) (bs : List (Nat × List Step)) : Prop :=
  BackL w S rt rv K p.outTop us bs ∧ (p.aggOk = true → BackL w S rt rv K p.outAgg us bs)

theorem outAgg_ok : ∀ {p : Par}, p.aggOk = true → p.outAgg.aggOk = true
  | .val _, _ | .own _ _, _ | .io _ _, _ | .box _ _, _ | .any _, _ | .nil, _ => rfl
  | .agg p, h => outAgg_ok (p := p) h
  | .cons a b, h => by
    simp only [Par.aggOk, Bool.and_eq_true] at h
    simp only [Par.outAgg, Par.aggOk, outAgg_ok h.1, outAgg_ok h.2, Bool.and_self]
  | .skip, h => by simp [Par.aggOk] at h
  | .fn _ _, h => by simp [Par.aggOk] at h

theorem rep_cells {w : World} {S F : Fp} {e : Ty} {d : Nat} {xs : List e.den} {v : Value} (h : rep w S (.list e) d xs [v] F) : v.cells.toList.length = 1 := by
  obtain ⟨A, c, rfl⟩ := root_slice h
  rfl

mutual
theorem takeP_sound (m : Mem C s.rt rv F S G w) : ∀ (p : Par) (sv : SV) (l l' : List Nat) (t : Tk p) (v : Value), (takeP p sv).run s l = some (t, l') → RSV w S s.rt rv sv v →
    ∃ Fa Sl K, Took w S F s.rt t.dead t.back t.lent K Fa Sl ∧ Arg w (fun b => S b ∨ Sl b ∨ ∃ i ∈ t.lent, F i b) p t.x v Fa ∧ Backs w S s.rt rv K p v t.back
  | .val τ, sv, l, l', t, v, h, hv => by
    have h' : ((lend τ sv).bind fun (x, l) => Rd.ret (⟨x, [], [], l⟩ : Tk (.val τ))).run s l = some (t, l') := by cases sv <;> exact h
    obtain ⟨⟨x, ls⟩, l1, h1, h2⟩ := run_bind_some h'
    have := ret_some h2; cases this
    obtain ⟨g1, g2, g3⟩ := lend_sound m τ sv _ _ x ls v h1 hv
    refine ⟨fun _ => False, fun _ => False, fun _ _ => False, Took.empty, ?_, ?_, fun _ => ?_⟩
    · simp only [Arg]
      exact ⟨⟨_, rep_mono (fun b hb => hb.imp (fun h => h) .inr) g1, g2⟩, fun _ h => h⟩
    · simp only [Par.outTop, BackP]
    · simp only [Par.outAgg, BackP]
      exact ⟨trivial, rep_len g1⟩
  | .own d τ, sv, l, l', t, v, h, hv => by
    cases sv with
    | nil =>
      simp only [takeP] at h
      have := ret_some h; cases this
      simp only [RSV] at hv
      obtain ⟨A, rfl⟩ := hv
      refine ⟨fun _ => False, fun _ => False, fun _ _ => False, Took.empty, ?_, ?_, fun _ => ?_⟩
      · simp only [Arg]
        exact .inl ⟨⟨A, rfl⟩, rfl, fun _ h => h⟩
      · simp only [Par.outTop, BackP]
      · simp only [Par.outAgg, BackP]
        exact ⟨trivial, rfl⟩
    | «at» id ver p =>
      cases p with
      | cons _ _ => simp only [takeP] at h; exact (fail_some h).elim
      | nil =>
        simp only [takeP, liveS, Rd.run] at h
        simp only [RSV, RAt] at hv
        cases hr : s.rt id <;> simp only [hr] at h <;> try exact (fail_some h).elim
        rename_i r
        rw [hr] at hv
        have hc : (Nat.beq (nix []) 0 || Nat.beq r.ver ver) = true := rfl
        rw [hc] at h
        simp only [cond_true] at h
        split at h
        · rename_i z hz
          cases hd : Nat.ble d r.d with
          | false => rw [hd] at h; exact (fail_some h).elim
          | true =>
            rw [hd] at h
            have := ret_some h; cases this
            obtain ⟨rd, rτ, rxs, rver⟩ := r
            obtain ⟨q, hq⟩ := toTy_list hz
            simp only at q hq hd
            subst q
            subst hq
            obtain rfl := (hv.2.1 rfl).2
            obtain ⟨F', g1, g2⟩ := rep_lower (m.live id _ hr) (Nat.succ_le_succ (Nat.le_of_ble_eq_true hd))
            refine ⟨F', fun b => F id b ∧ ¬ F' b, fun _ _ => False, ⟨by simp [idsOf], ?_, fun b hb => ⟨id, by simp [idsOf], g1 b hb⟩, fun b hb => ⟨id, by simp [ids], hb.1⟩, fun b hb hc => hc.2 hb, fun _ _ _ h => by simp at h, (fun i h => nomatch h), (fun _ _ _ h => nomatch h), fun _ _ h => h.elim⟩, ?_, ?_, fun _ => ?_⟩
            · intro i st hi
              simp at hi
              obtain ⟨rfl, rfl⟩ := hi
              exact ⟨_, hr, .inl rfl⟩
            · simp only [Arg]
              exact rep_mono (fun b hb => hb.imp (fun h => h) .inl) g2
            · simp only [Par.outTop, BackP]
            · simp only [Par.outAgg, BackP]
              exact ⟨trivial, rep_cells g2⟩
        · exact (fail_some h).elim
    | _ => simp only [takeP] at h; exact (fail_some h).elim
  | .io d τ, sv, l, l', t, v, h, hv => by
    cases sv with
    | «at» id ver p =>
      simp only [takeP, liveS, Rd.run] at h
      simp only [RSV, RAt] at hv
      cases hr : s.rt id <;> simp only [hr] at h <;> try exact (fail_some h).elim
      rename_i r
      rw [hr] at hv
      cases hc : Nat.beq (nix p) 0 || Nat.beq r.ver ver with
      | false => rw [hc] at h; exact (fail_some h).elim
      | true =>
        rw [hc] at h
        simp only [cond_true] at h
        split at h
        · rename_i z hz
          split at h
          · rename_i y hy
            cases hd : depthOk (.list τ) (d + 1) (depthP (r.d + 1) p) with
            | false => rw [hd] at h; exact (fail_some h).elim
            | true =>
              rw [hd] at h
              have := ret_some h; cases this
              have e := toTy_some hy
              subst e
              by_cases hp : nix p = 0
              · obtain ⟨rfl, rfl⟩ := hv.2.1 hp
                obtain ⟨rd, rτ, rxs, rver⟩ := r
                simp only [getP, Option.some.injEq] at hz
                cases hz
                have h0 := m.live id _ hr
                have hrep := depthOk_rep hd h0
                have key : BackP w S s.rt rv (fun _ _ => False) (.io d τ) (rv id) [(id, [])] := by
                  simp only [BackP]
                  obtain ⟨A, c, hA⟩ := root_slice h0
                  refine ⟨id, [], _, rfl, hr, ⟨A, _, c, hA⟩, fun w' S' y' Fs' _ _ a3 _ => ⟨y', by simp [setP], ?_⟩⟩
                  exact rep_iff (depthOk_rep (depthOk_symm hd) a3) fun b => by simp
                refine ⟨F id, fun _ => False, fun _ _ => False, ⟨by simp [idsOf], (fun _ _ h => nomatch h), fun b hb => ⟨id, by simp [idsOf], hb⟩, fun _ h => h.elim, fun _ _ h => h, (fun _ _ _ h => nomatch h), (fun i hi => by simp at hi; subst hi; exact .inl ⟨_, hr⟩), (fun _ _ _ h => nomatch h), fun _ _ h => h.elim⟩, ?_, key, fun _ => key⟩
                simp only [Arg]
                exact rep_mono (fun b hb => .inl hb) hrep
              · have hver : r.ver = ver := by
                  rcases Bool.or_eq_true_iff.1 hc with hc | hc
                  · exact absurd (Nat.eq_of_beq_eq_true hc) hp
                  · exact Nat.eq_of_beq_eq_true hc
                obtain ⟨hn, e, b, o, hw, hcell⟩ := hv.2.2 hp hver
                have h0 := m.live id _ hr
                obtain ⟨y1, hget, qk, arr, Fs, Fr, a1, _, a3, a4, a5, a6, a7, a8⟩ := focV h0 hw (by omega)
                rw [hz] at hget
                cases hget
                obtain ⟨u1, u2, u3⟩ := a7 trivial
                have hsg : seg arr o (Ty.list τ).size = [v] := seg_one (by rw [← a1.cell]; exact hcell)
                rw [hsg] at a4
                have hFb : F id b := (a6 b).2 (.inr (.inr ⟨trivial, rfl⟩))
                have key : BackP w S s.rt rv (fun i b' => i = id ∧ (Fr b' ∨ b' = b)) (.io d τ) v [(id, p)] := by
                  simp only [BackP]
                  obtain ⟨A, c, hA⟩ := root_slice a4
                  refine ⟨id, p, r, rfl, hr, ⟨A, _, c, hA⟩, fun w' S' y' Fs' k1 k2 k3 k4 => ?_⟩
                  obtain ⟨x', g1, g2⟩ := a8 w' S' arr y' Fs' k1 (fun b' hb => k2 b' (hb.imp (fun h => ⟨rfl, .inl h⟩) (fun h => h))) rfl (fun _ _ => rfl) (fun _ => u1.of_eq (k2 b (.inl ⟨rfl, .inr rfl⟩)))
                    (by rw [hsg]; exact depthOk_rep (depthOk_symm hd) k3) (fun b' hb => k4 b' ⟨rfl, .inl hb⟩) (fun _ => k4 b ⟨rfl, .inr rfl⟩)
                  refine ⟨x', g1, rep_iff g2 fun b' => ?_⟩
                  constructor
                  · rintro (⟨_, h | h⟩ | h)
                    · exact .inl h
                    · exact .inr (.inr ⟨trivial, h⟩)
                    · exact .inr (.inl h)
                  · rintro (h | h | ⟨_, h⟩)
                    · exact .inl ⟨rfl, .inl h⟩
                    · exact .inr h
                    · exact .inl ⟨rfl, .inr h⟩
                refine ⟨Fs, fun _ => False, fun i b' => i = id ∧ (Fr b' ∨ b' = b), ⟨by simp [idsOf], (fun _ _ h => nomatch h), fun b' hb => ⟨id, by simp [idsOf], (a6 b').2 (.inr (.inl hb))⟩, fun _ h => h.elim, fun _ _ h => h, (fun _ _ _ h => nomatch h), (fun i hi => by simp at hi; subst hi; exact .inl ⟨_, hr⟩), (fun _ _ _ h => nomatch h), ?_⟩, ?_, key, fun _ => key⟩
                · rintro i b' ⟨rfl, hb | rfl⟩
                  · exact ⟨by simp, (a6 b').2 (.inl hb), a5 b' hb⟩
                  · exact ⟨by simp, hFb, u3⟩
                · simp only [Arg]
                  exact rep_mono (fun b hb => .inl hb) (depthOk_rep hd a4)
          · exact (fail_some h).elim
        · exact (fail_some h).elim
    | _ => simp only [takeP] at h; exact (fail_some h).elim
  | .box d τ, sv, l, l', t, v, h, hv => by
    cases sv with
    | bp id p =>
      cases p with
      | cons _ _ => simp only [takeP] at h; exact (fail_some h).elim
      | nil =>
        simp only [takeP, Rd.run] at h
        simp only [RSV, RBp] at hv
        cases hr : s.rt id <;> simp only [hr] at h <;> try exact (fail_some h).elim
        rename_i σ c
        rw [hr] at hv
        split at h
        · rename_i he
          subst he
          obtain ⟨⟨y, tk⟩, l1, h1, h2⟩ := run_bind_some h
          obtain ⟨h3, h4⟩ := chk_some h2
          have := ret_some h4; cases this
          obtain ⟨b, τ', δ, g1, g2, g3⟩ := hv
          simp [fldPath] at g2
          obtain ⟨rfl, rfl⟩ := g2
          obtain ⟨b', arr, q1, q2, q3, q4, q6⟩ := m.box id σ c hr
          obtain rfl : b' = b := by rw [g1] at q1; cases q1; rfl
          obtain ⟨hB1, hB2⟩ := BRep_rsv q6
          obtain ⟨n1, n2, Fl, Sl, sp, hrep⟩ := lay_sound m σ d c _ _ y tk _ h1 hB1
          rw [hB2] at hrep
          have hid : id ∉ ids tk := fun hh => apartIds_spec h3 id (by simp [ids]) hh
          have hFb : F id b' := (q4 b').2 rfl
          have hnot : ∀ b, taken tk F b → b ≠ b' := by
            rintro b ⟨i, st, hi, hb⟩ rfl
            have := m.dis i id b hb hFb
            subst this
            exact hid (mem_ids.2 ⟨st, hi⟩)
          have key : BackP w S s.rt rv (fun _ _ => False) (.box d σ) v [(id, [])] := by
            simp only [BackP]
            exact ⟨id, c, b', rfl, hr, g1, g3.trans g1.symm, fun _ h => h⟩
          refine ⟨fun b => b = b' ∨ Fl b, Sl, fun _ _ => False, ⟨List.nodup_append.2 ⟨n1, by simp, fun i hi j hj e => hid (by simp at hj; subst hj; subst e; exact hi)⟩, n2, ?_, fun b hb => by obtain ⟨i, st, hi, hb⟩ := sp.sl b hb; exact ⟨i, mem_ids.2 ⟨st, hi⟩, hb⟩, ?_, fun i τ xs hi b hb => sp.frz i τ xs hi b hb, (fun i hi => by simp at hi; subst hi; exact .inr ⟨_, _, hr⟩), (fun _ _ _ h => nomatch h), fun _ _ h => h.elim⟩, ?_, key, fun _ => key⟩
          · rintro b (rfl | hb)
            · exact ⟨id, by simp [idsOf], hFb⟩
            · obtain ⟨i, st, hi, hb⟩ := sp.fl b hb
              exact ⟨i, by simp only [idsOf, List.mem_append]; exact .inl (mem_ids.2 ⟨st, hi⟩), hb⟩
          · rintro b (rfl | hb) hc
            · exact hnot b (sp.sl b hc) rfl
            · exact sp.apart b hb hc
          · simp only [Arg]
            exact ⟨b', arr, Fl, g3, q2, q3, rep_mono (fun b hb => hb.imp (fun h => h) .inl) hrep, fun hb => hnot b' (sp.fl b' hb) rfl, fun _ => Iff.rfl⟩
        · exact (fail_some h).elim
    | _ => simp only [takeP] at h; exact (fail_some h).elim
  | .agg p, sv, l, l', t, v, h, hv => by
    have hcopy := h
    cases sv with
    | agg vs =>
      simp only [takeP] at h
      obtain ⟨h0, h⟩ := chk_some h
      obtain ⟨t', l1, h1, h2⟩ := run_bind_some h
      have := ret_some h2; cases this
      simp only [RSV] at hv
      obtain ⟨us, g1, g2⟩ := hv
      obtain ⟨Fa, Sl, K, k1, k2, k3, k4⟩ := takeL_sound m p vs _ _ t' us h1 g1
      refine ⟨Fa, Sl, K, k1, by simp only [Arg]; exact ⟨us, g2, k2⟩, ?_, fun ha => ?_⟩
      · cases ho : p.hasOut with
        | false =>
          have e : (Par.agg p).outTop = .skip := by simp [Par.outTop, ho]
          rw [e]
          simp only [BackP]
          exact takeP_noOut (.agg p) _ _ _ _ ho hcopy
        | true =>
          have e : (Par.agg p).outTop = .agg p.outAgg := by simp [Par.outTop, ho]
          rw [e]
          rw [ho] at h0
          have ha : p.aggOk = true := by simpa using h0
          simp only [BackP]
          exact ⟨us, g2, outAgg_ok ha, k4 ha⟩
      · simp only [Par.outAgg, BackP]
        exact ⟨us, g2, outAgg_ok (p := p) ha, k4 ha⟩
    | _ => simp only [takeP] at h; exact (fail_some h).elim
  | .fn f p, sv, l, l', t, v, h, hv => by
    have hcopy := h
    cases sv with
    | fn g vs =>
      simp only [takeP] at h
      cases hfg : Nat.beq f g with
      | false => rw [hfg] at h; exact (fail_some h).elim
      | true =>
        rw [hfg] at h
        obtain rfl := Nat.eq_of_beq_eq_true hfg
        obtain ⟨t', l1, h1, h2⟩ := run_bind_some h
        have := ret_some h2; cases this
        simp only [RSV] at hv
        obtain ⟨us, g1, g2⟩ := hv
        obtain ⟨Fa, Sl, K, k1, k2, k3, k4⟩ := takeL_sound m p vs _ _ t' us h1 g1
        refine ⟨Fa, Sl, K, k1, by simp only [Arg]; exact ⟨us, g2, k2⟩, ?_, fun ha => by simp [Par.aggOk] at ha⟩
        cases ho : p.hasOut with
        | false =>
          have e : (Par.fn f p).outTop = .skip := by simp [Par.outTop, ho]
          rw [e]
          simp only [BackP]
          exact takeP_noOut (.fn f p) _ _ _ _ ho hcopy
        | true =>
          have e : (Par.fn f p).outTop = .fn f p.outTop := by simp [Par.outTop, ho]
          rw [e]
          simp only [BackP]
          exact ⟨us, g2, k3⟩
    | _ => simp only [takeP] at h; exact (fail_some h).elim
  | .any k, sv, l, l', t, v, h, hv => by
    cases sv with
    | val τ x =>
      simp only [takeP] at h
      cases hk : Nat.beq k τ.size with
      | false => rw [hk] at h; exact (fail_some h).elim
      | true =>
        rw [hk] at h
        have := ret_some h; cases this
        simp only [RSV] at hv
        obtain ⟨cs, h1, rfl⟩ := hv
        have hl : (τ.wrap cs).cells.toList.length = k := by rw [wrap_cells h1, rep_len h1, Nat.eq_of_beq_eq_true hk]
        refine ⟨fun _ => False, fun _ => False, fun _ _ => False, Took.empty, ?_, ?_, fun _ => ?_⟩
        · simp only [Arg]
          exact ⟨hl, fun _ h => h⟩
        · simp only [Par.outTop, BackP]
        · simp only [Par.outAgg, BackP]
          exact ⟨trivial, hl⟩
    | _ => simp only [takeP] at h; exact (fail_some h).elim
  | .skip, sv, l, l', t, v, h, hv => by
    have h' : (Rd.ret (⟨(), [], [], []⟩ : Tk .skip)).run s l = some (t, l') := by cases sv <;> exact h
    have := ret_some h'; cases this
    refine ⟨fun _ => False, fun _ => False, fun _ _ => False, Took.empty, ?_, ?_, fun ha => by simp [Par.aggOk] at ha⟩
    · simp only [Arg]
      exact fun _ h => h
    · simp only [Par.outTop, BackP]
  | .nil, sv, l, l', t, v, h, hv => by
    have h' : (Rd.fail : Rd (Tk .nil)).run s l = some (t, l') := by cases sv <;> exact h
    exact (fail_some h').elim
  | .cons a b, sv, l, l', t, v, h, hv => by
    have h' : (Rd.fail : Rd (Tk (.cons a b))).run s l = some (t, l') := by cases sv <;> exact h
    exact (fail_some h').elim
theorem takeL_sound (m : Mem C s.rt rv F S G w) : ∀ (p : Par) (vs : List SV) (l l' : List Nat) (t : Tk p) (us : List Value), (takeP.takeL p vs).run s l = some (t, l') → RSVs w S s.rt rv vs us →
    ∃ Fa Sl K, Took w S F s.rt t.dead t.back t.lent K Fa Sl ∧ ArgL w (fun b => S b ∨ Sl b ∨ ∃ i ∈ t.lent, F i b) p t.x us Fa ∧ BacksL w S s.rt rv K p us t.back
  | .nil, vs, l, l', t, us, h, hv => by
    cases vs with
    | nil =>
      simp only [takeP.takeL] at h
      have := ret_some h; cases this
      simp only [RSVs] at hv
      refine ⟨fun _ => False, fun _ => False, fun _ _ => False, Took.empty, ?_, ?_, fun _ => ?_⟩
      · simp only [ArgL]
        exact ⟨hv, fun _ h => h⟩
      · simp only [Par.outTop, BackL]
        exact ⟨hv, trivial⟩
      · simp only [Par.outAgg, BackL]
        exact ⟨hv, trivial⟩
    | cons _ _ => simp only [takeP.takeL] at h; exact (fail_some h).elim
  | .cons p q, vs, l, l', t, us, h, hv => by
    cases vs with
    | nil => simp only [takeP.takeL] at h; exact (fail_some h).elim
    | cons v vs =>
      simp only [takeP.takeL] at h
      obtain ⟨t1, l1, h1, h2⟩ := run_bind_some h
      obtain ⟨t2, l2, h3, h4⟩ := run_bind_some h2
      obtain ⟨h5, h6⟩ := chk_some h4
      have := ret_some h6; cases this
      simp only [RSVs] at hv
      obtain ⟨u, us', rfl, hu, hus⟩ := hv
      obtain ⟨Fa, Sl, K1, k1, k2, k3, k4⟩ := takeP_sound m p v _ _ t1 u h1 hu
      obtain ⟨Fb, Sm, K2, j1, j2, j3, j4⟩ := takeL_sound m q vs _ _ t2 us' h3 hus
      simp only [Bool.and_eq_true] at h5
      obtain ⟨c1, c2, c3⟩ := h5
      have d1 := noneOf_spec c1
      -- apart
      have hap : ∀ {i j b}, i ∈ idsOf t1.dead t1.back → j ∈ idsOf t2.dead t2.back → F i b → ¬ F j b := by
        intro i j b hi hj hb hc
        have := m.dis i j b hb hc
        subst this
        exact d1 i hi hj
      have hd : ∀ {i : Nat} {dd : RL} {bb : List (Nat × List Step)}, i ∈ ids dd → i ∈ idsOf dd bb := fun hi => List.mem_append_left _ hi
      have hbk : ∀ {i : Nat} {dd : RL} {bb : List (Nat × List Step)}, i ∈ bb.map (·.1) → i ∈ idsOf dd bb := fun hi => List.mem_append_right _ hi
      have e1 : ∀ i ∈ t1.back.map (·.1), ∀ b, (K1 i b ∨ K2 i b) ↔ K1 i b := fun i hi b => ⟨fun h => h.elim id fun h => (d1 i (hbk hi) (hbk (j1.kp i b h).1)).elim, .inl⟩
      have e2 : ∀ i ∈ t2.back.map (·.1), ∀ b, (K1 i b ∨ K2 i b) ↔ K2 i b := fun i hi b => ⟨fun h => h.elim (fun h => (d1 i (hbk (k1.kp i b h).1) (hbk hi)).elim) id, .inr⟩
      refine ⟨fun b => Fa b ∨ Fb b, fun b => Sl b ∨ Sm b, fun i b => K1 i b ∨ K2 i b, ⟨?_, k1.takes.app j1.takes, ?_, ?_, ?_, ?_, ?_, ?_, ?_⟩, ?_, ?_, fun ha => ?_⟩
      · have q1 := List.nodup_append.1 k1.nodup
        have q2 := List.nodup_append.1 j1.nodup
        simp only [idsOf, List.map_append]
        refine List.nodup_append.2 ⟨List.nodup_append.2 ⟨q1.1, q2.1, fun i hi j hj e => ?_⟩, List.nodup_append.2 ⟨q1.2.1, q2.2.1, fun i hi j hj e => ?_⟩, fun i hi j hj e => ?_⟩
        · subst e; exact d1 i (hd hi) (hd hj)
        · subst e; exact d1 i (hbk hi) (hbk hj)
        · subst e
          rcases List.mem_append.1 hi with hi | hi <;> rcases List.mem_append.1 hj with hj | hj
          · exact q1.2.2 i hi i hj rfl
          · exact d1 i (hd hi) (hbk hj)
          · exact d1 i (hbk hj) (hd hi)
          · exact q2.2.2 i hi i hj rfl
      · rintro b (hb | hb)
        · obtain ⟨i, hi, hb⟩ := k1.fa b hb
          exact ⟨i, idsOf_app.2 (.inl hi), hb⟩
        · obtain ⟨i, hi, hb⟩ := j1.fa b hb
          exact ⟨i, idsOf_app.2 (.inr hi), hb⟩
      · rintro b (hb | hb)
        · obtain ⟨i, hi, hb⟩ := k1.sl b hb
          exact ⟨i, by simp only [ids, List.map_append, List.mem_append]; exact .inl hi, hb⟩
        · obtain ⟨i, hi, hb⟩ := j1.sl b hb
          exact ⟨i, by simp only [ids, List.map_append, List.mem_append]; exact .inr hi, hb⟩
      · rintro b (hb | hb) (hc | hc)
        · exact k1.apart b hb hc
        · obtain ⟨i, hi, hb⟩ := k1.fa b hb
          obtain ⟨j, hj, hc⟩ := j1.sl b hc
          exact hap hi (hd hj) hb hc
        · obtain ⟨i, hi, hb⟩ := j1.fa b hb
          obtain ⟨j, hj, hc⟩ := k1.sl b hc
          exact hap (hd hj) hi hc hb
        · exact j1.apart b hb hc
      · intro id τ xs hm b hb
        exact (List.mem_append.1 hm).imp (fun hm => k1.frz id τ xs hm b hb) (fun hm => j1.frz id τ xs hm b hb)
      · intro i hi
        rw [List.map_append] at hi
        exact (List.mem_append.1 hi).elim (k1.backs i) (j1.backs i)
      · intro b hb i hi hc
        rcases hb with hb | hb <;> rcases List.mem_append.1 hi with hi | hi
        · exact k1.lentA b hb i hi hc
        · obtain ⟨j, hj, hb⟩ := k1.fa b hb
          have := m.dis i j b hc hb
          subst this
          exact noneOf_spec c2 i hj hi
        · obtain ⟨j, hj, hb⟩ := j1.fa b hb
          have := m.dis i j b hc hb
          subst this
          exact noneOf_spec c3 i hi hj
        · exact j1.lentA b hb i hi hc
      · rintro i b (hk | hk)
        · obtain ⟨q1, q2, q3⟩ := k1.kp i b hk
          refine ⟨by rw [List.map_append]; exact List.mem_append_left _ q1, q2, fun hc => hc.elim q3 fun hc => ?_⟩
          obtain ⟨j, hj, hc⟩ := j1.fa b hc
          exact hap (hbk q1) hj q2 hc
        · obtain ⟨q1, q2, q3⟩ := j1.kp i b hk
          refine ⟨by rw [List.map_append]; exact List.mem_append_right _ q1, q2, fun hc => hc.elim (fun hc => ?_) q3⟩
          obtain ⟨j, hj, hc⟩ := k1.fa b hc
          exact hap hj (hbk q1) hc q2
      · simp only [ArgL]
        refine ⟨u, us', Fa, Fb, rfl, ?_, ?_, ?_, fun _ => Iff.rfl⟩
        · rw [DL.left_app]
          exact Arg_mono (fun b hb => hb.imp (fun h => h) fun hb => hb.imp .inl fun ⟨i, hi, hb⟩ => ⟨i, List.mem_append_left _ hi, hb⟩) k2
        · rw [DL.right_app]
          exact ArgL_mono (fun b hb => hb.imp (fun h => h) fun hb => hb.imp .inr fun ⟨i, hi, hb⟩ => ⟨i, List.mem_append_right _ hi, hb⟩) j2
        · intro b hb hc
          obtain ⟨i, hi, hb⟩ := k1.fa b hb
          obtain ⟨j, hj, hc⟩ := j1.fa b hc
          exact hap hi hj hb hc
      · show BackL w S s.rt rv _ (.cons p.outTop q.outTop) _ (t1.back ++ t2.back)
        simp only [BackL]
        exact ⟨u, us', _, _, rfl, rfl, BackP_congr e1 k3, BackL_congr e2 j3⟩
      · simp only [Par.aggOk, Bool.and_eq_true] at ha
        show BackL w S s.rt rv _ (.cons p.outAgg q.outAgg) _ (t1.back ++ t2.back)
        simp only [BackL]
        exact ⟨u, us', _, _, rfl, rfl, BackP_congr e1 (k4 ha.1), BackL_congr e2 (j4 ha.2)⟩
  | .val _, vs, l, l', t, us, h, hv | .own _ _, vs, l, l', t, us, h, hv | .io _ _, vs, l, l', t, us, h, hv | .box _ _, vs, l, l', t, us, h, hv | .agg _, vs, l, l', t, us, h, hv | .fn _ _, vs, l, l', t, us, h, hv
  | .any _, vs, l, l', t, us, h, hv | .skip, vs, l, l', t, us, h, hv => by simp only [takeP.takeL] at h; exact (fail_some h).elim
end
end
end Go.Abs
set_option linter.unusedVariables false
set_option linter.unusedSimpArgs false
set_option linter.unnecessarySimpa false
set_option linter.unusedSectionVars false
namespace Go.Abs
open Go

def updRts : RL → (Nat → RSt) → Nat → RSt
  | [], rt => rt
  | (i, x) :: l, rt => updRts l (updRt rt i x)

theorem putRs_rt : ∀ (l : RL) (s : St), (putRs l s).rt = updRts l s.rt
  | [], _ => rfl
  | (i, x) :: l, s => by
    rw [putRs, updRts, putRs_rt l]
    congr 1
    funext j
    simp [put_sl, put_rt, putR_sl, putR_rt, updRt]

theorem updRts_app : ∀ (l m : RL) (rt : Nat → RSt), updRts (l ++ m) rt = updRts m (updRts l rt)
  | [], _, _ => rfl
  | (i, x) :: l, m, rt => by simp only [List.cons_append, updRts]; exact updRts_app l m _

theorem updRts_other : ∀ (l : RL) (rt : Nat → RSt) (j : Nat), j ∉ ids l → updRts l rt j = rt j
  | [], _, _, _ => rfl
  | (i, x) :: l, rt, j, h => by
    simp [put_sl, put_rt, putR_sl, putR_rt, ids] at h
    rw [updRts, updRts_other l _ j (by simpa [put_sl, put_rt, putR_sl, putR_rt, ids] using h.2)]
    simp [put_sl, put_rt, putR_sl, putR_rt, updRt, h.1]

theorem updRts_comm {i : Nat} {x : RSt} : ∀ {l : RL} {rt : Nat → RSt}, i ∉ ids l → updRts l (updRt rt i x) = updRt (updRts l rt) i x
  | [], _, _ => rfl
  | (j, y) :: l, rt, h => by
    simp [put_sl, put_rt, putR_sl, putR_rt, ids] at h
    rw [updRts, updRts, ← updRts_comm (by simpa [put_sl, put_rt, putR_sl, putR_rt, ids] using h.2)]
    congr 1
    funext k
    simp only [updRt]
    by_cases h1 : k = j
    · subst h1; simp [put_sl, put_rt, putR_sl, putR_rt, Ne.symm h.1]
    · by_cases h2 : k = i
      · simp [put_sl, put_rt, putR_sl, putR_rt, h1, h2, h.1]
      · simp [put_sl, put_rt, putR_sl, putR_rt, h1, h2]

section
variable {C : Ctx} {rt : Nat → RSt} {rv : Nat → Value} {F : Nat → Fp} {S G : Fp} {w : World}

/-- A box is taken up. -/
theorem adoptBox (m : Mem C rt rv F S G w) {id : Nat} (h0 : rt id = .none)
    {σ : Ty} {c : SV} {b : Nat} {arr : Array Value} (hb : G b) (ho : Own 1 w b arr) (ha : arr.size = σ.size) (hr : BRep w S rt rv c σ arr.toList) :
    Mem C (updRt rt id (.box σ c)) (fun j => if j = id then .pointer (some ⟨b, 0, none⟩) else rv j) (fun j b' => if j = id then b' = b else F j b') S (fun b' => G b' ∧ ¬ b' = b) w ∧
    Keep w S rt rv w S (updRt rt id (.box σ c)) (fun j => if j = id then .pointer (some ⟨b, 0, none⟩) else rv j) := by
  have hno : ∀ b, ¬ F id b := fun b hb => by rcases m.none id b hb with ⟨r, hr⟩ | ⟨σ, c, hr⟩ | ⟨r, q, hr⟩ <;> (rw [h0] at hr; cases hr)
  have K : Keep w S rt rv w S (updRt rt id (.box σ c)) (fun j => if j = id then .pointer (some ⟨b, 0, none⟩) else rv j) := by
    refine ⟨fun _ h => h, fun _ _ => rfl, fun j hj => ?_, fun j hj => ?_, fun j r' h hn => ?_, fun j r q h hn => ?_, fun j τ xs h hn => ?_, fun j σ c h hn => ?_⟩
    · by_cases h : j = id
      · subst h; exact absurd h0 hj
      · simp [put_sl, put_rt, putR_sl, putR_rt, h]
    · by_cases h : j = id
      · simp [put_sl, put_rt, putR_sl, putR_rt, updRt, h]
      · simpa [put_sl, put_rt, putR_sl, putR_rt, updRt, h] using hj
    · by_cases hj : j = id
      · subst hj; exact absurd h0 hn
      · simp [put_sl, put_rt, putR_sl, putR_rt, updRt, hj] at h
        exact .inl ⟨r', h, rfl, fun _ => rfl, Nat.le_refl _, fun _ p σ b o hnx hwk => ⟨hwk, fun _ _ _ _ h => h⟩⟩
    · by_cases hj : j = id
      · subst hj; exact absurd h0 hn
      · simp [put_sl, put_rt, putR_sl, putR_rt, updRt, hj] at h; exact ⟨r, .inr ⟨q, h⟩, rfl, Nat.le_refl _⟩
    · by_cases hj : j = id
      · subst hj; exact absurd h0 hn
      · simp [put_sl, put_rt, putR_sl, putR_rt, updRt, hj] at h; exact .inl h
    · by_cases hj : j = id
      · subst hj; exact absurd h0 hn
      · simp [put_sl, put_rt, putR_sl, putR_rt, updRt, hj] at h; exact ⟨c, h⟩
  refine ⟨?_, K⟩
  constructor
  · intro j r h
    by_cases hj : j = id
    · subst hj; simp [put_sl, put_rt, putR_sl, putR_rt, updRt] at h
    · simp [put_sl, put_rt, putR_sl, putR_rt, updRt, hj] at h
      simp only [hj, if_false]
      exact m.live j r h
  · intro j τ xs h
    by_cases hj : j = id
    · subst hj; simp [put_sl, put_rt, putR_sl, putR_rt, updRt] at h
    · simp [put_sl, put_rt, putR_sl, putR_rt, updRt, hj] at h
      simp only [hj, if_false]
      exact m.frz j τ xs h
  · intro j σ' c' h
    by_cases hj : j = id
    · subst hj
      simp [put_sl, put_rt, putR_sl, putR_rt, updRt] at h
      obtain ⟨rfl, rfl⟩ := h
      exact ⟨b, arr, by simp, ho, ha, fun b' => by simp, BRep_keep K _ _ _ hr⟩
    · simp [put_sl, put_rt, putR_sl, putR_rt, updRt, hj] at h
      obtain ⟨b1, arr1, q1, q2, q3, q4, q6⟩ := m.box j σ' c' h
      exact ⟨b1, arr1, by simpa [put_sl, put_rt, putR_sl, putR_rt, hj] using q1, q2, q3, by simpa [put_sl, put_rt, putR_sl, putR_rt, hj] using q4, BRep_keep K _ _ _ q6⟩
  · intro j r q h
    by_cases hj : j = id
    · subst hj; simp [put_sl, put_rt, putR_sl, putR_rt, updRt] at h
    · simp [put_sl, put_rt, putR_sl, putR_rt, updRt, hj] at h
      simp only [hj, if_false]
      exact m.hole j r q h
  · intro j b' hb'
    by_cases hj : j = id
    · subst hj; exact .inr (.inl ⟨σ, c, by simp [put_sl, put_rt, putR_sl, putR_rt, updRt]⟩)
    · simp only [hj, if_false] at hb'
      simpa [put_sl, put_rt, putR_sl, putR_rt, updRt, hj] using m.none j b' hb'
  · intro i j b' hi hj
    by_cases h1 : i = id <;> by_cases h2 : j = id
    · rw [h1, h2]
    · simp only [h1, h2, if_true, if_false] at hi hj; subst hi; exact absurd hb (m.sep j _ hj).2
    · simp only [h1, h2, if_true, if_false] at hi hj; subst hj; exact absurd hb (m.sep i _ hi).2
    · simp only [h1, h2, if_false] at hi hj; exact m.dis i j b' hi hj
  · intro j b' hb'
    by_cases hj : j = id
    · simp only [hj, if_true] at hb'
      subst hb'
      exact ⟨m.gsep _ hb, fun h => h.2 rfl⟩
    · simp only [hj, if_false] at hb'; exact ⟨(m.sep j b' hb').1, fun h => (m.sep j b' hb').2 h.1⟩
  · exact fun b hb => m.gsep b hb.1
  · exact fun b hb => m.glt b hb.1
  · exact m.slt
  · exact m.same
  · exact m.size
  · exact m.frame
  · rintro j b' (hb' | hb')
    · by_cases hj : j = id
      · simp only [hj, if_true] at hb'; subst hb'; exact m.own j _ (.inr hb)
      · simp only [hj, if_false] at hb'; exact m.own j b' (.inl hb')
    · exact m.own j b' (.inr hb'.1)
  · exact m.s0
  · exact m.shr
  · exact m.ok

/-- the state behind new roots -/
def Given (C : Ctx) (rt : Nat → RSt) (rv : Nat → Value) (S G : Fp) (w : World) (rs : RL) (Fn : Fp) (Q : (Nat → RSt) → (Nat → Value) → Prop) : Prop :=
  ∃ rv' F' G', Mem C (updRts rs rt) rv' F' S G' w ∧ Keep w S rt rv w S (updRts rs rt) rv' ∧ (∀ b, G' b ↔ G b ∧ ¬ Fn b) ∧ Q (updRts rs rt) rv'

theorem Mem.g_iff {G' : Fp} (m : Mem C rt rv F S G w) (h : ∀ b, G' b ↔ G b) : Mem C rt rv F S G' w := by
  have : G' = G := funext fun b => propext (h b)
  rw [this]; exact m

theorem range_app {i j k : Nat} (h1 : i ≤ j) (h2 : j ≤ k) : List.range' i (j - i) ++ List.range' j (k - j) = List.range' i (k - i) := by
  have := List.range'_append_1 (s := i) (m := j - i) (n := k - j)
  rw [show i + (j - i) = j by omega] at this
  rw [this, show j - i + (k - j) = k - i by omega]

mutual
theorem unpack1_ids : ∀ (τ : Ty) (d i : Nat) (x : τ.den), ids (unpack1 d τ i x).2.1 = List.range' i ((unpack1 d τ i x).2.2 - i) ∧ i ≤ (unpack1 d τ i x).2.2 := by
  intro τ d i x
  unfold unpack1
  cases hf : τ.flat || Nat.beq d 0 with
  | true => simp [put_sl, put_rt, putR_sl, putR_rt, ids]
  | false =>
    simp only [cond_false]
    cases τ with
    | list e => simp [put_sl, put_rt, putR_sl, putR_rt, ids]
    | one f => exact unpack1_ids f d i x
    | pair f r =>
      obtain ⟨h1, h2⟩ := unpack1_ids f d i x.1
      obtain ⟨h3, h4⟩ := unpackF_ids r d (unpack1 d f i x.1).2.2 x.2
      refine ⟨?_, Nat.le_trans h2 h4⟩
      show ids (_ ++ _) = _
      simp only [ids, List.map_append] at h1 h3 ⊢
      rw [h1, h3, range_app h2 h4]
    | _ => simp [put_sl, put_rt, putR_sl, putR_rt, ids]
theorem unpackF_ids : ∀ (τ : Ty) (d i : Nat) (x : τ.den), ids (unpackF d τ i x).2.1 = List.range' i ((unpackF d τ i x).2.2 - i) ∧ i ≤ (unpackF d τ i x).2.2 := by
  intro τ d i x
  cases τ with
  | list e =>
    unfold unpackF
    cases Nat.beq d 0 <;> simp [put_sl, put_rt, putR_sl, putR_rt, ids]
  | one f => exact unpack1_ids f d i x
  | pair f r =>
    obtain ⟨h1, h2⟩ := unpack1_ids f d i x.1
    obtain ⟨h3, h4⟩ := unpackF_ids r d (unpack1 d f i x.1).2.2 x.2
    refine ⟨?_, Nat.le_trans h2 h4⟩
    show ids (_ ++ _) = _
    simp only [ids, List.map_append] at h1 h3 ⊢
    rw [h1, h3, range_app h2 h4]
    rfl
  | _ => simp [put_sl, put_rt, putR_sl, putR_rt, unpackF, ids]
end

theorem Given.nil (m : Mem C rt rv F S G w) {Fn : Fp} (hF : ∀ b, ¬ Fn b) {Q : (Nat → RSt) → (Nat → Value) → Prop} (h : Q rt rv) : Given C rt rv S G w [] Fn Q :=
  ⟨rv, F, G, m, Keep.refl _ _ _ _, fun b => ⟨fun h => ⟨h, hF b⟩, fun h => h.1⟩, h⟩

theorem rep_plain {τ : Ty} {d : Nat} {x : τ.den} {cs : List Value} {Fn : Fp} (h : rep w S τ d x cs Fn) (k : (τ.flat || Nat.beq d 0) = true) : rep w S τ 0 x cs (fun _ => False) ∧ ∀ b, ¬ Fn b := by
  have hn : ∀ b, ¬ Fn b := rep_none ((Bool.or_eq_true_iff.1 k).elim .inr fun h => .inl (Nat.eq_of_beq_eq_true h)) h
  refine ⟨?_, hn⟩
  rcases Bool.or_eq_true_iff.1 k with k | k
  · exact rep_iff (rep_flat (d' := 0) k h) fun b => ⟨fun h => h.elim, fun h => hn b h⟩
  · obtain rfl := Nat.eq_of_beq_eq_true k
    exact rep_iff h fun b => ⟨fun h => h.elim, fun h => hn b h⟩

/-- one behind the other -/
theorem Given.app {rs qs : RL} {F1 F2 Fn : Fp} {Q1 Q : (Nat → RSt) → (Nat → Value) → Prop} (a : Given C rt rv S G w rs F1 Q1) (hF : ∀ b, Fn b ↔ F1 b ∨ F2 b)
    (b : ∀ rt' rv' F' G', Mem C rt' rv' F' S G' w → rt' = updRts rs rt → Keep w S rt rv w S rt' rv' → (∀ b, G' b ↔ G b ∧ ¬ F1 b) → Q1 rt' rv' → Given C rt' rv' S G' w qs F2 Q) : Given C rt rv S G w (rs ++ qs) Fn Q := by
  obtain ⟨rv1, Fa, G1, m1, k1, g1, q1⟩ := a
  obtain ⟨rv2, Fb, G2, m2, k2, g2, q2⟩ := b _ rv1 Fa G1 m1 rfl k1 g1 q1
  refine ⟨rv2, Fb, G2, ?_, ?_, fun b => ?_, ?_⟩
  · rw [updRts_app]; exact m2
  · rw [updRts_app]; exact k1.trans k2
  · rw [g2, g1, hF]
    exact ⟨fun ⟨⟨h1, h2⟩, h3⟩ => ⟨h1, fun h => h.elim h2 h3⟩, fun ⟨h1, h2⟩ => ⟨⟨h1, fun h => h2 (.inl h)⟩, fun h => h2 (.inr h)⟩⟩
  · rw [updRts_app]; exact q2

theorem range_none {rs qs : RL} {i j k : Nat} (h1 : ids rs = List.range' i (j - i)) (h2 : ids qs = List.range' j (k - j)) (hij : i ≤ j) (h : ∀ k ∈ ids (rs ++ qs), rt k = .none) :
    (∀ k ∈ ids rs, rt k = .none) ∧ ∀ k ∈ ids qs, updRts rs rt k = .none := by
  have e : ids (rs ++ qs) = ids rs ++ ids qs := by simp [put_sl, put_rt, putR_sl, putR_rt, ids]
  rw [e] at h
  refine ⟨fun k hk => h k (List.mem_append_left _ hk), fun k hk => ?_⟩
  rw [updRts_other]
  · exact h k (List.mem_append_right _ hk)
  · rw [h1]
    rw [h2] at hk
    intro hc
    simp [put_sl, put_rt, putR_sl, putR_rt, List.mem_range'] at hk hc
    omega

theorem list_given {e : Ty} {d i : Nat} {x : List e.den} {cs : List Value} {Fn : Fp} (hd : d ≠ 0) (h : rep w S (.list e) d x cs Fn) (m : Mem C rt rv F S G w) (hG : ∀ b, Fn b → G b) (h0 : rt i = .none) :
    Given C rt rv S G w [(i, .live ⟨d - 1, e, x, 0⟩)] Fn fun rt' rv' => BRep w S rt' rv' (.at i 0 []) (.list e) cs := by
  obtain ⟨v, rfl⟩ : ∃ v, cs = [v] := by
    have := rep_len h
    match cs, this with
    | [v], _ => exact ⟨v, rfl⟩
  have hone := rep_one h v (by simp [put_sl, put_rt, putR_sl, putR_rt])
  have h' : rep w S (.list e) (d - 1 + 1) x [v] Fn := by rw [show d - 1 + 1 = d by omega]; exact h
  obtain ⟨m', k'⟩ := newRoot (ver := 0) m h0 (fun _ _ _ => rfl) (Nat.le_refl _) ⟨rfl, rfl, rfl⟩ h' fun b hb => .inl (hG b hb)
  refine ⟨_, _, _, m', k', fun b => Iff.rfl, ?_⟩
  simp only [BRep]
  refine ⟨⟨e, rfl⟩, v, rfl, hone, ?_⟩
  simp only [RSV, RAt, updRts, updRt, if_true]
  refine ⟨Nat.le_refl _, fun _ => ?_, fun h => absurd rfl h⟩
  simp [put_sl, put_rt, putR_sl, putR_rt]

theorem brepL_val {rt : Nat → RSt} {τ : Ty} {x : τ.den} {cs : List Value} (ha : τ.isAgg = false) (h : rep w S τ 0 x cs (fun _ => False)) : BRepL w S rt rv [.val τ x] τ cs := by
  cases τ <;> first | (simp [put_sl, put_rt, putR_sl, putR_rt, Ty.isAgg] at ha; done) | (simp only [BRepL]; exact BRep_val h)

mutual
theorem unpack1_sound : ∀ (τ : Ty) (d i : Nat) (x : τ.den) (cs : List Value) (Fn : Fp), rep w S τ d x cs Fn →
    ∀ (rt : Nat → RSt) (rv : Nat → Value) (F : Nat → Fp) (G : Fp), Mem C rt rv F S G w → (∀ b, Fn b → G b) → (∀ k ∈ ids (unpack1 d τ i x).2.1, rt k = .none) →
    Given C rt rv S G w (unpack1 d τ i x).2.1 Fn fun rt' rv' => BRep w S rt' rv' (unpack1 d τ i x).1 τ cs := by
  intro τ d i x cs Fn h rt rv F G m hG h0
  cases hf : τ.flat || Nat.beq d 0 with
  | true =>
    obtain ⟨h1, h2⟩ := rep_plain h hf
    have e : unpack1 d τ i x = (.val τ x, [], i) := by unfold unpack1; rw [hf]; rfl
    rw [e]
    exact Given.nil m h2 (BRep_val h1)
  | false =>
    have hd : d ≠ 0 := fun hd => by subst hd; simp [put_sl, put_rt, putR_sl, putR_rt] at hf
    cases τ with
    | list e =>
      have e : unpack1 d (.list e) i x = (.at i 0 [], [(i, .live ⟨d - 1, e, x, 0⟩)], i + 1) := by unfold unpack1; rw [hf]; rfl
      rw [e] at h0 ⊢
      exact list_given hd h m hG (h0 i (by simp [put_sl, put_rt, putR_sl, putR_rt, ids]))
    | one f =>
      have e : unpack1 d (.one f) i x = (.agg [(unpack1 d f i x).1], (unpack1 d f i x).2.1, (unpack1 d f i x).2.2) := by
        conv => lhs; unfold unpack1
        rw [hf]; rfl
      rw [e] at h0 ⊢
      obtain ⟨rv', F', G', q1, q2, q3, q4⟩ := unpack1_sound f d i x cs Fn h rt rv F G m hG h0
      exact ⟨rv', F', G', q1, q2, q3, by simp only [BRep, BRepL]; exact ⟨rfl, q4⟩⟩
    | pair f r =>
      have e : unpack1 d (.pair f r) i x = (.agg ((unpack1 d f i x.1).1 :: (unpackF d r (unpack1 d f i x.1).2.2 x.2).1), (unpack1 d f i x.1).2.1 ++ (unpackF d r (unpack1 d f i x.1).2.2 x.2).2.1, (unpackF d r (unpack1 d f i x.1).2.2 x.2).2.2) := by
        conv => lhs; unfold unpack1
        rw [hf]; rfl
      rw [e] at h0 ⊢
      obtain ⟨F1, F2, g1, g2, g3, g4⟩ := h
      obtain ⟨r1, r2⟩ := unpack1_ids f d i x.1
      obtain ⟨r3, r4⟩ := unpackF_ids r d (unpack1 d f i x.1).2.2 x.2
      obtain ⟨n1, n2⟩ := range_none r1 r3 r2 h0
      refine Given.app (unpack1_sound f d i x.1 _ F1 g1 rt rv F G m (fun b hb => hG b ((g4 b).2 (.inl hb))) n1) g4 ?_
      intro rt' rv' F' G' m' ert k' hg' q'
      subst ert
      obtain ⟨rv2, F2', G2, q1, q2, q3, q4⟩ := unpackF_sound r d _ x.2 _ F2 g2 _ rv' F' G' m' (fun b hb => (hg' b).2 ⟨hG b ((g4 b).2 (.inr hb)), fun hc => g3 b hc hb⟩) n2
      exact ⟨rv2, F2', G2, q1, q2, q3, by simp only [BRep]; rw [brepL_pair]; exact ⟨rfl, BRep_keep q2 _ _ _ q', q4⟩⟩
    | int _ => simp [put_sl, put_rt, putR_sl, putR_rt, Ty.flat] at hf
    | bool => simp [put_sl, put_rt, putR_sl, putR_rt, Ty.flat] at hf
    | str => simp [put_sl, put_rt, putR_sl, putR_rt, Ty.flat] at hf
theorem unpackF_sound : ∀ (τ : Ty) (d i : Nat) (x : τ.den) (cs : List Value) (Fn : Fp), rep w S τ d x cs Fn →
    ∀ (rt : Nat → RSt) (rv : Nat → Value) (F : Nat → Fp) (G : Fp), Mem C rt rv F S G w → (∀ b, Fn b → G b) → (∀ k ∈ ids (unpackF d τ i x).2.1, rt k = .none) →
    Given C rt rv S G w (unpackF d τ i x).2.1 Fn fun rt' rv' => BRepL w S rt' rv' (unpackF d τ i x).1 τ cs := by
  intro τ d i x cs Fn h rt rv F G m hG h0
  cases τ with
  | list e =>
    unfold unpackF at h0 ⊢
    cases hd : Nat.beq d 0 with
    | true =>
      obtain ⟨h1, h2⟩ := rep_plain h (by rw [hd]; simp [put_sl, put_rt, putR_sl, putR_rt])
      exact Given.nil m h2 (brepL_val rfl h1)
    | false =>
      rw [hd] at h0
      have hd' : d ≠ 0 := fun h => by subst h; simp [put_sl, put_rt, putR_sl, putR_rt] at hd
      obtain ⟨rv', F', G', q1, q2, q3, q4⟩ := list_given hd' h m hG (h0 i (by simp [put_sl, put_rt, putR_sl, putR_rt, ids]))
      exact ⟨rv', F', G', q1, q2, q3, by simp only [cond_false, BRepL]; exact q4⟩
  | one f =>
    obtain ⟨rv', F', G', q1, q2, q3, q4⟩ := unpack1_sound f d i x cs Fn h rt rv F G m hG h0
    exact ⟨rv', F', G', q1, q2, q3, by simp only [unpackF, BRepL]; exact q4⟩
  | pair f r =>
    obtain ⟨F1, F2, g1, g2, g3, g4⟩ := h
    obtain ⟨r1, r2⟩ := unpack1_ids f d i x.1
    obtain ⟨r3, r4⟩ := unpackF_ids r d (unpack1 d f i x.1).2.2 x.2
    obtain ⟨n1, n2⟩ := range_none r1 r3 r2 h0
    refine Given.app (unpack1_sound f d i x.1 _ F1 g1 rt rv F G m (fun b hb => hG b ((g4 b).2 (.inl hb))) n1) g4 ?_
    intro rt' rv' F' G' m' ert k' hg' q'
    subst ert
    obtain ⟨rv2, F2', G2, q1, q2, q3, q4⟩ := unpackF_sound r d _ x.2 _ F2 g2 _ rv' F' G' m' (fun b hb => (hg' b).2 ⟨hG b ((g4 b).2 (.inr hb)), fun hc => g3 b hc hb⟩) n2
    exact ⟨rv2, F2', G2, q1, q2, q3, by simp only [unpackF]; rw [brepL_pair]; exact ⟨BRep_keep q2 _ _ _ q', q4⟩⟩
  | int k =>
    obtain ⟨h1, h2⟩ := rep_plain h rfl
    exact Given.nil m h2 (brepL_val rfl h1)
  | bool =>
    obtain ⟨h1, h2⟩ := rep_plain h rfl
    exact Given.nil m h2 (brepL_val rfl h1)
  | str =>
    obtain ⟨h1, h2⟩ := rep_plain h rfl
    exact Given.nil m h2 (brepL_val rfl h1)
end

/-- Results. -/
def ResL (w : World) (S : Fp) : (l : List (Nat × Ty)) → DL (l.map (·.2)) → List Value → Fp → Prop
  | [], _, us, F => us = [] ∧ ∀ b, ¬ F b
  | (d, τ) :: r, x, us, F => ∃ cs us' F1 F2, us = τ.wrap cs :: us' ∧ rep w S τ d (DL.head x) cs F1 ∧ ResL w S r (DL.tail x) us' F2 ∧ Disj F1 F2 ∧ ∀ b, F b ↔ F1 b ∨ F2 b

theorem unpack_ids : ∀ (l : List (Nat × Ty)) (i : Nat) (x : DL (l.map (·.2))), ids (unpack l i x).2.1 = List.range' i ((unpack l i x).2.2 - i) ∧ i ≤ (unpack l i x).2.2
  | [], i, x => by simp [put_sl, put_rt, putR_sl, putR_rt, unpack, ids]
  | (d, τ) :: r, i, x => by
    obtain ⟨h1, h2⟩ := unpack1_ids τ d i (DL.head x)
    obtain ⟨h3, h4⟩ := unpack_ids r (unpack1 d τ i (DL.head x)).2.2 (DL.tail x)
    refine ⟨?_, Nat.le_trans h2 h4⟩
    show ids (_ ++ _) = _
    simp only [ids, List.map_append] at h1 h3 ⊢
    rw [h1, h3, range_app h2 h4]
    rfl

theorem unpack_sound : ∀ (l : List (Nat × Ty)) (i : Nat) (x : DL (l.map (·.2))) (us : List Value) (Fn : Fp), ResL w S l x us Fn →
    ∀ (rt : Nat → RSt) (rv : Nat → Value) (F : Nat → Fp) (G : Fp), Mem C rt rv F S G w → (∀ b, Fn b → G b) → (∀ k ∈ ids (unpack l i x).2.1, rt k = .none) →
    Given C rt rv S G w (unpack l i x).2.1 Fn fun rt' rv' => RSVs w S rt' rv' (unpack l i x).1 us
  | [], i, x, us, Fn, h, rt, rv, F, G, m, hG, h0 => Given.nil m h.2 (by simp only [unpack, RSVs]; exact h.1)
  | (d, τ) :: r, i, x, us, Fn, h, rt, rv, F, G, m, hG, h0 => by
    obtain ⟨cs, us', F1, F2, rfl, g1, g2, g3, g4⟩ := h
    obtain ⟨r1, r2⟩ := unpack1_ids τ d i (DL.head x)
    obtain ⟨r3, r4⟩ := unpack_ids r (unpack1 d τ i (DL.head x)).2.2 (DL.tail x)
    obtain ⟨n1, n2⟩ := range_none r1 r3 r2 h0
    refine Given.app (unpack1_sound τ d i (DL.head x) _ F1 g1 rt rv F G m (fun b hb => hG b ((g4 b).2 (.inl hb))) n1) g4 ?_
    intro rt' rv' F' G' m' ert k' hg' q'
    subst ert
    obtain ⟨rv2, F2', G2, q1, q2, q3, q4⟩ := unpack_sound r _ (DL.tail x) us' F2 g2 _ rv' F' G' m' (fun b hb => (hg' b).2 ⟨hG b ((g4 b).2 (.inr hb)), fun hc => g3 b hc hb⟩) n2
    refine ⟨rv2, F2', G2, q1, q2, q3, ?_⟩
    simp only [unpack, RSVs]
    exact ⟨_, us', rfl, RSV_keep q2 _ _ (BRep_rsv q').1, q4⟩

theorem RSVs_app {rt : Nat → RSt} : ∀ {vs ws : List SV} {us us' : List Value}, RSVs w S rt rv vs us → RSVs w S rt rv ws us' → RSVs w S rt rv (vs ++ ws) (us ++ us')
  | [], ws, us, us', h, k => by simp only [RSVs] at h; subst h; exact k
  | v :: vs, ws, us, us', h, k => by
    simp only [RSVs] at h
    obtain ⟨u, us1, rfl, h1, h2⟩ := h
    simp only [List.cons_append, RSVs]
    exact ⟨u, us1 ++ us', rfl, h1, RSVs_app h2 k⟩

theorem give_ids : ∀ (p : Par) (i : Nat) (x : DL p.ins), ids (give p i x).2.1 = List.range' i ((give p i x).2.2 - i) ∧ i ≤ (give p i x).2.2
  | .val τ, i, x => by simp [put_sl, put_rt, putR_sl, putR_rt, give, ids]
  | .own d τ, i, x => by simp [put_sl, put_rt, putR_sl, putR_rt, give, ids]
  | .io d τ, i, x => by simp [put_sl, put_rt, putR_sl, putR_rt, give, ids]
  | .box d τ, i, x => by
    obtain ⟨h1, h2⟩ := unpack1_ids τ d (i + 1) x
    have h2' : i ≤ (unpack1 d τ (i + 1) x).2.2 := Nat.le_trans (Nat.le_succ i) h2
    refine ⟨?_, h2'⟩
    show i :: ids (unpack1 d τ (i + 1) x).2.1 = List.range' i ((unpack1 d τ (i + 1) x).2.2 - i)
    rw [h1]
    generalize (unpack1 d τ (i + 1) x).2.2 = j at h2
    rw [show j - i = (j - (i + 1)) + 1 by omega, List.range'_succ]
  | .agg p, i, x => give_ids p i x
  | .fn f p, i, x => give_ids p i x
  | .any _, i, x => by simp [put_sl, put_rt, putR_sl, putR_rt, give, ids]
  | .skip, i, x => by simp [put_sl, put_rt, putR_sl, putR_rt, give, ids]
  | .nil, i, x => by simp [put_sl, put_rt, putR_sl, putR_rt, give, ids]
  | .cons a b, i, x => by
    obtain ⟨h1, h2⟩ := give_ids a i (DL.left x)
    obtain ⟨h3, h4⟩ := give_ids b (give a i (DL.left x)).2.2 (DL.right x)
    refine ⟨?_, Nat.le_trans h2 h4⟩
    show ids (_ ++ _) = _
    simp only [ids, List.map_append] at h1 h3 ⊢
    rw [h1, h3, range_app h2 h4]
    rfl

theorem own_given {d i : Nat} {τ : Ty} {x : List τ.den} {v : Value} {Fn : Fp} (h : rep w S (.list τ) (d + 1) x [v] Fn) (m : Mem C rt rv F S G w) (hG : ∀ b, Fn b → G b) (h0 : rt i = .none) :
    Given C rt rv S G w [(i, .live ⟨d, τ, x, 0⟩)] Fn fun rt' rv' => RSVs w S rt' rv' [.at i 0 []] [v] := by
  obtain ⟨rv', F', G', q1, q2, q3, q4⟩ := list_given (i := i) (by omega) h m hG h0
  refine ⟨rv', F', G', q1, q2, q3, ?_⟩
  simp only [BRep] at q4
  obtain ⟨_, u, hu, _, hr⟩ := q4
  cases hu
  simp only [RSVs]
  exact ⟨v, [], rfl, hr, rfl⟩

mutual
theorem give_sound : ∀ (p : Par) (i : Nat) (x : DL p.ins) (v : Value) (Fn : Fp), Arg w S p x v Fn →
    ∀ (rt : Nat → RSt) (rv : Nat → Value) (F : Nat → Fp) (G : Fp), Mem C rt rv F S G w → (∀ b, Fn b → G b) → (∀ k ∈ ids (give p i x).2.1, rt k = .none) →
    Given C rt rv S G w (give p i x).2.1 Fn fun rt' rv' => RSVs w S rt' rv' (give p i x).1 [v]
  | .val τ, i, x, v, Fn, h, rt, rv, F, G, m, hG, h0 => by
    simp only [Arg] at h
    refine Given.nil m h.2 ?_
    simp only [give, RSVs, RSV]
    exact ⟨v, [], rfl, h.1, rfl⟩
  | .own d τ, i, x, v, Fn, h, rt, rv, F, G, m, hG, h0 => by
    simp only [Arg] at h
    exact own_given h m hG (h0 i (by simp [put_sl, put_rt, putR_sl, putR_rt, give, ids]))
  | .io d τ, i, x, v, Fn, h, rt, rv, F, G, m, hG, h0 => by
    simp only [Arg] at h
    exact own_given h m hG (h0 i (by simp [put_sl, put_rt, putR_sl, putR_rt, give, ids]))
  | .box d τ, i, x, v, Fn, h, rt, rv, F, G, m, hG, h0 => by
    simp only [Arg] at h
    obtain ⟨b, arr, F', rfl, g2, g3, g4, g5, g6⟩ := h
    have e : give (.box d τ) i x = ([.bp i []], (i, .box τ (unpack1 d τ (i + 1) x).1) :: (unpack1 d τ (i + 1) x).2.1, (unpack1 d τ (i + 1) x).2.2) := rfl
    rw [e] at h0 ⊢
    have hi : i ∉ ids (unpack1 d τ (i + 1) x).2.1 := by
      rw [(unpack1_ids τ d (i + 1) x).1]
      intro hc
      simp [put_sl, put_rt, putR_sl, putR_rt, List.mem_range'] at hc
      omega
    have h0' : ∀ k ∈ ids (unpack1 d τ (i + 1) x).2.1, rt k = .none := fun k hk => h0 k (by simp only [ids, List.map_cons] at hk ⊢; exact List.mem_cons_of_mem _ hk)
    obtain ⟨rv1, F1, G1, m1, k1, q1, q2⟩ := unpack1_sound τ d (i + 1) x _ F' g4 rt rv F G m (fun b hb => hG b ((g6 b).2 (.inr hb))) h0'
    have hn : updRts (unpack1 d τ (i + 1) x).2.1 rt i = .none := by rw [updRts_other _ _ _ hi]; exact h0 i (by simp [put_sl, put_rt, putR_sl, putR_rt, ids])
    obtain ⟨m2, k2⟩ := adoptBox m1 hn (b := b) ((q1 b).2 ⟨hG b ((g6 b).2 (.inl rfl)), g5⟩) g2 g3 q2
    refine ⟨fun j => if j = i then .pointer (some ⟨b, 0, none⟩) else rv1 j, fun j b' => if j = i then b' = b else F1 j b', fun b' => G1 b' ∧ ¬ b' = b, ?_, ?_, ?_, ?_⟩
    · rw [updRts, updRts_comm hi]; exact m2
    · rw [updRts, updRts_comm hi]; exact k1.trans k2
    · intro b'
      show G1 b' ∧ ¬ b' = b ↔ _
      rw [q1, g6]
      exact ⟨fun ⟨⟨h1, h2⟩, h3⟩ => ⟨h1, fun h => h.elim h3 h2⟩, fun ⟨h1, h2⟩ => ⟨⟨h1, fun h => h2 (.inr h)⟩, fun h => h2 (.inl h)⟩⟩
    · simp only [RSVs]
      refine ⟨_, [], rfl, ?_, rfl⟩
      simp only [RSV, RBp]
      rw [updRts, updRts_comm hi]
      simp only [updRt, if_true]
      exact ⟨b, τ, 0, rfl, rfl, rfl⟩
  | .agg p, i, x, v, Fn, h, rt, rv, F, G, m, hG, h0 => by
    simp only [Arg] at h
    obtain ⟨us, rfl, h⟩ := h
    obtain ⟨rv', F', G', q1, q2, q3, q4⟩ := giveL_sound p i x us Fn h rt rv F G m hG h0
    refine ⟨rv', F', G', q1, q2, q3, ?_⟩
    simp only [give, RSVs, RSV]
    exact ⟨_, [], rfl, ⟨us, q4, rfl⟩, rfl⟩
  | .fn f p, i, x, v, Fn, h, rt, rv, F, G, m, hG, h0 => by
    simp only [Arg] at h
    obtain ⟨us, rfl, h⟩ := h
    obtain ⟨rv', F', G', q1, q2, q3, q4⟩ := giveL_sound p i x us Fn h rt rv F G m hG h0
    refine ⟨rv', F', G', q1, q2, q3, ?_⟩
    simp only [give, RSVs, RSV]
    exact ⟨_, [], rfl, ⟨us, q4, rfl⟩, rfl⟩
  | .any k, i, x, v, Fn, h, rt, rv, F, G, m, hG, h0 => by
    simp only [Arg] at h
    refine Given.nil m h.2 ?_
    simp only [give, RSVs, RSV]
    exact ⟨v, [], rfl, trivial, rfl⟩
  | .skip, i, x, v, Fn, h, rt, rv, F, G, m, hG, h0 => by
    simp only [Arg] at h
    refine Given.nil m h ?_
    simp only [give, RSVs, RSV]
    exact ⟨v, [], rfl, trivial, rfl⟩
  | .nil, i, x, v, Fn, h, rt, rv, F, G, m, hG, h0 => by simp [put_sl, put_rt, putR_sl, putR_rt, Arg] at h
  | .cons _ _, i, x, v, Fn, h, rt, rv, F, G, m, hG, h0 => by simp [put_sl, put_rt, putR_sl, putR_rt, Arg] at h
theorem giveL_sound : ∀ (p : Par) (i : Nat) (x : DL p.ins) (us : List Value) (Fn : Fp), ArgL w S p x us Fn →
    ∀ (rt : Nat → RSt) (rv : Nat → Value) (F : Nat → Fp) (G : Fp), Mem C rt rv F S G w → (∀ b, Fn b → G b) → (∀ k ∈ ids (give p i x).2.1, rt k = .none) →
    Given C rt rv S G w (give p i x).2.1 Fn fun rt' rv' => RSVs w S rt' rv' (give p i x).1 us
  | .nil, i, x, us, Fn, h, rt, rv, F, G, m, hG, h0 => by
    simp only [ArgL] at h
    exact Given.nil m h.2 (by simp only [give, RSVs]; exact h.1)
  | .cons p q, i, x, us, Fn, h, rt, rv, F, G, m, hG, h0 => by
    simp only [ArgL] at h
    obtain ⟨u, us', F1, F2, rfl, g1, g2, g3, g4⟩ := h
    obtain ⟨r1, r2⟩ := give_ids p i (DL.left x)
    obtain ⟨r3, r4⟩ := give_ids q (give p i (DL.left x)).2.2 (DL.right x)
    have e : give (.cons p q) i x = ((give p i (DL.left x)).1 ++ (give q (give p i (DL.left x)).2.2 (DL.right x)).1, (give p i (DL.left x)).2.1 ++ (give q (give p i (DL.left x)).2.2 (DL.right x)).2.1, (give q (give p i (DL.left x)).2.2 (DL.right x)).2.2) := rfl
    rw [e] at h0 ⊢
    obtain ⟨n1, n2⟩ := range_none r1 r3 r2 h0
    refine Given.app (give_sound p i (DL.left x) u F1 g1 rt rv F G m (fun b hb => hG b ((g4 b).2 (.inl hb))) n1) g4 ?_
    intro rt' rv' F' G' m' ert k' hg' q'
    subst ert
    obtain ⟨rv2, F2', G2, q1, q2, q3, q4⟩ := giveL_sound q _ (DL.right x) us' F2 g2 _ rv' F' G' m' (fun b hb => (hg' b).2 ⟨hG b ((g4 b).2 (.inr hb)), fun hc => g3 b hc hb⟩) n2
    exact ⟨rv2, F2', G2, q1, q2, q3, RSVs_app (RSVs_keep q2 _ _ q') q4⟩
  | .val _, i, x, us, Fn, h, rt, rv, F, G, m, hG, h0 | .own _ _, i, x, us, Fn, h, rt, rv, F, G, m, hG, h0 | .io _ _, i, x, us, Fn, h, rt, rv, F, G, m, hG, h0 | .box _ _, i, x, us, Fn, h, rt, rv, F, G, m, hG, h0
  | .agg _, i, x, us, Fn, h, rt, rv, F, G, m, hG, h0 | .fn _ _, i, x, us, Fn, h, rt, rv, F, G, m, hG, h0 | .any _, i, x, us, Fn, h, rt, rv, F, G, m, hG, h0 | .skip, i, x, us, Fn, h, rt, rv, F, G, m, hG, h0 => by simp [put_sl, put_rt, putR_sl, putR_rt, ArgL] at h
end

/-- All roots are let go; what is lent or frozen stays shared, what is handed over waits. -/
theorem forget {s : St} {dead : RL} {back : List (Nat × List Step)} {lent : List Nat} {K : Nat → Fp} {Fa Sl : Fp} (m : Mem C s.rt rv F S G w) (t : Took w S F s.rt dead back lent K Fa Sl) :
    Mem C (fun _ => .none) rv (fun _ _ => False) (fun b => S b ∨ Sl b ∨ ∃ i ∈ lent, F i b) Fa w where
  live := fun _ _ h => by cases h
  frz := fun _ _ _ h => by cases h
  box := fun _ _ _ h => by cases h
  hole := fun _ _ _ h => by cases h
  none := fun _ _ h => h.elim
  dis := fun _ _ _ h => h.elim
  sep := fun _ _ h => h.elim
  gsep := fun b hb h => by
    obtain ⟨i, hi, hbi⟩ := t.fa b hb
    rcases h with h | h | ⟨j, hj, h⟩
    · exact (m.sep i b hbi).1 h
    · exact t.apart b hb h
    · exact t.lentA b hb j hj h
  glt := fun b hb => by obtain ⟨i, hi, hbi⟩ := t.fa b hb; exact m.lt hbi
  slt := fun b h => by
    rcases h with h | h | ⟨j, hj, h⟩
    · exact m.slt b h
    · obtain ⟨i, hi, hbi⟩ := t.sl b h; exact m.lt hbi
    · exact m.lt h
  same := m.same
  size := m.size
  frame := m.frame
  own := fun i b h => by
    obtain ⟨i, hi, hbi⟩ := t.fa b (h.elim (fun h => h.elim) fun h => h)
    exact m.own i b (.inl hbi)
  s0 := fun b hb => .inl (m.s0 b hb)
  shr := fun b h => by
    rcases h with h | h | ⟨j, hj, h⟩
    · exact m.shr b h
    · obtain ⟨i, hi, hbi⟩ := t.sl b h; exact .inr (m.own i b (.inl hbi))
    · exact .inr (m.own j b (.inl h))
  ok := m.ok

theorem putAll_rt : ∀ (l : List Nat) (vs : List SV) (s : St), (putAll l vs s).rt = s.rt
  | [], _, _ => rfl
  | _ :: _, [], _ => rfl
  | i :: l, v :: vs, s => by rw [putAll, putAll_rt l vs]; rfl

theorem putAll_sl {rt : Nat → RSt} {tm : Nat → Value} : ∀ (l : List Nat) (vs : List SV) (s : St), (∀ i, RSV w S rt rv (s.sl i) (tm i)) → RSVs w S rt rv vs (l.map tm) → ∀ i, RSV w S rt rv ((putAll l vs s).sl i) (tm i)
  | [], _, _, h, _ => h
  | _ :: _, [], _, h, _ => h
  | i :: l, v :: vs, s, h, k => by
    simp only [List.map_cons, RSVs] at k
    obtain ⟨u, us', hu, h1, h2⟩ := k
    cases hu
    rw [putAll]
    refine putAll_sl l vs _ (fun j => ?_) h2
    rw [put_sl]
    split
    · rename_i e; subst e; exact h1
    · exact h j

theorem RSVs_slots {rt : Nat → RSt} {tm : Nat → Value} {sl : Nat → SV} (h : ∀ i, RSV w S rt rv (sl i) (tm i)) : ∀ (l : List Nat), RSVs w S rt rv (l.map sl) (l.map tm)
  | [] => by simp [put_sl, put_rt, putR_sl, putR_rt, RSVs]
  | i :: l => by simp only [List.map_cons, RSVs]; exact ⟨_, _, rfl, h i, RSVs_slots h l⟩

/-- The state at a cut, or where a function begins. -/
theorem giveSt_rel {slots : List Nat} {p : Par} {x : DL p.ins} {a : Act} {Fa : Fp} (m : Mem C (fun _ => .none) rv (fun _ _ => False) S Fa w) (h : ArgL w S p x (slots.map fun i => a.tmps.getD i undef) Fa) (hd : Held0 C a) :
    RelE C (giveSt slots p x) a w := by
  obtain ⟨rv', F', G', q1, q2, q3, q4⟩ := giveL_sound p 16 x _ Fa h _ rv _ _ m (fun b hb => hb) (fun _ _ => rfl)
  have ert : (giveSt slots p x).rt = updRts (give p 16 x).2.1 (fun _ => .none) := by
    show (putRs (give p 16 x).2.1 (putAll slots (give p 16 x).1 ⟨fun _ => .undef, fun _ => .none⟩)).rt = _
    rw [putRs_rt, putAll_rt]
  have esl : (giveSt slots p x).sl = (putAll slots (give p 16 x).1 ⟨fun _ => .undef, fun _ => .none⟩).sl := putRs_sl _ _
  refine ⟨⟨rv', F', S, G', by rw [ert]; exact q1, fun i => ?_⟩, hd⟩
  rw [ert, esl]
  exact putAll_sl (tm := fun i => a.tmps.getD i undef) slots _ _ (fun i => by simp only [RSV]) q4 i

theorem alike_eq {s : St} {rv : Nat → Value} {u v : Value} : ∀ {x y : SV}, alike s x y = true → RSV w S s.rt rv x u → RSV w S s.rt rv y v → u = v
  | .at i ver [], .at j ver' [], h, hu, hv => by
    simp only [alike, Bool.and_eq_true] at h
    obtain rfl := Nat.eq_of_beq_eq_true h.1
    simp only [RSV, RAt] at hu hv
    cases hr : s.rt i with
    | none => rw [hr] at hu; exact hu.elim
    | dead => rw [hr] at h; simp at h
    | box _ _ => rw [hr] at h; simp at h
    | hole _ _ => rw [hr] at h; simp at h
    | frz _ _ => rw [hr] at hu hv; simp only [forall_const] at hu hv; rw [hu, hv]
    | live r => rw [hr] at hu hv; rw [(hu.2.1 rfl).2, (hv.2.1 rfl).2]
  | .bp i [], .bp j [], h, hu, hv => by
    simp only [alike, Bool.and_eq_true] at h
    obtain rfl := Nat.eq_of_beq_eq_true h.1
    simp only [RSV, RBp] at hu hv
    cases hr : s.rt i with
    | box _ _ => rw [hr] at hu hv; obtain ⟨b1, t1, d1, e1, f1, g1⟩ := hu; obtain ⟨b2, t2, d2, e2, f2, g2⟩ := hv; rw [e1] at e2; rw [f1] at f2; cases e2; cases f2; rw [g1, g2]
    | none => rw [hr] at h; simp at h
    | dead => rw [hr] at h; simp at h
    | live _ => rw [hr] at h; simp at h
    | hole _ _ => rw [hr] at h; simp at h
    | frz _ _ => rw [hr] at h; simp at h
/-- what a value holds -/
def VSrc : Nat → Value → Value → Prop
  | 0, v, u => u = v
  | k + 1, v, u => ∃ g us, v = .func g #[] (List.toArray us) ∧ us[k]? = some u
theorem capt_rel {s : St} {rv : Nat → Value} : ∀ (k : Nat) (vs : List SV) (us : List Value), RSVs w S s.rt rv vs us → ∀ u, us[k]? = some u → RSV w S s.rt rv (capt k vs) u
  | 0, v :: vs, us, h, u, hu => by
    simp only [RSVs] at h
    obtain ⟨u0, us', rfl, h1, _⟩ := h
    simp only [List.getElem?_cons_zero, Option.some.injEq] at hu
    subst hu; exact h1
  | k + 1, v :: vs, us, h, u, hu => by
    simp only [RSVs] at h
    obtain ⟨u0, us', rfl, _, h2⟩ := h
    simp only [List.getElem?_cons_succ] at hu
    exact capt_rel k vs us' h2 u hu
  | k, [], us, h, u, hu => by cases k <;> simp only [capt, RSV]
theorem capt_ex {s : St} {rv : Nat → Value} : ∀ (k : Nat) (vs : List SV) (us : List Value), RSVs w S s.rt rv vs us → capt k vs ≠ .undef → ∃ u, us[k]? = some u
  | 0, v :: vs, us, h, _ => by
    simp only [RSVs] at h
    obtain ⟨u0, us', rfl, h1, _⟩ := h
    exact ⟨u0, rfl⟩
  | k + 1, v :: vs, us, h, hn => by
    simp only [RSVs] at h
    obtain ⟨u0, us', rfl, _, h2⟩ := h
    obtain ⟨u, hu⟩ := capt_ex k vs us' h2 hn
    exact ⟨u, by simpa using hu⟩
  | k, [], us, h, hn => by cases k <;> exact absurd rfl hn
theorem src_rel {s : St} {rv : Nat → Value} {tm : Nat → Value} (hs : ∀ i, RSV w S s.rt rv (s.sl i) (tm i)) (b : Nat) : ∀ (k : Nat) (u : Value), VSrc k (tm b) u → RSV w S s.rt rv (alSrc s b k) u
  | 0, u, h => by cases h; exact hs b
  | k + 1, u, ⟨g, us, h1, h2⟩ => by
    simp only [alSrc]
    split
    · rename_i f vs hb
      have := hs b
      rw [hb] at this
      simp only [RSV] at this
      obtain ⟨us', q1, q2⟩ := this
      rw [h1] at q2
      injection q2 with _ _ q3
      have e : us = us' := by simpa using congrArg Array.toList q3
      subst e
      exact capt_rel k vs us q1 u h2
    · simp only [RSV]
theorem src_ex {s : St} {rv : Nat → Value} {tm : Nat → Value} (hs : ∀ i, RSV w S s.rt rv (s.sl i) (tm i)) (b : Nat) : ∀ (k : Nat), alSrc s b k ≠ .undef → ∃ u, VSrc k (tm b) u
  | 0, _ => ⟨tm b, rfl⟩
  | k + 1, h => by
    simp only [alSrc] at h
    split at h
    · rename_i f vs hb
      have := hs b
      rw [hb] at this
      simp only [RSV] at this
      obtain ⟨us', q1, q2⟩ := this
      obtain ⟨u, hu⟩ := capt_ex k vs us' q1 h
      exact ⟨u, _, us', q2, hu⟩
    · exact absurd rfl h
theorem alOk_eq {s : St} {rv : Nat → Value} {tm : Nat → Value} (hs : ∀ i, RSV w S s.rt rv (s.sl i) (tm i)) : ∀ (l : List (Nat × Nat × Nat)), alOk s l = true → ∀ q ∈ l, VSrc q.2.2 (tm q.2.1) (tm q.1)
  | [], _, q, hq => by cases hq
  | (a, b, k) :: l, h, q, hq => by
    simp only [alOk, Bool.and_eq_true] at h
    rcases List.mem_cons.1 hq with rfl | hq
    · have hne : alSrc s b k ≠ .undef := by
        intro e
        have h1 := h.1
        rw [e] at h1
        unfold alike at h1
        split at h1 <;> simp_all
      obtain ⟨u, hu⟩ := src_ex hs b k hne
      have e := alike_eq h.1 (hs a) (src_rel hs b k u hu)
      rw [e]; exact hu
    · exact alOk_eq hs l h.2 q hq
theorem putAl_rel {a : Act} : ∀ {l : List (Nat × Nat × Nat)} {s : St}, (∀ q ∈ l, VSrc q.2.2 (a.tmps.getD q.2.1 undef) (a.tmps.getD q.1 undef)) → RelE C s a w → RelE C (putAl l s) a w
  | [], s, _, h => h
  | (i, j, k) :: l, s, hq, h => by
    show RelE C (putAl l (s.put i (alSrc s j k))) a w
    refine putAl_rel (fun q hq' => hq q (List.mem_cons_of_mem _ hq')) ?_
    obtain ⟨⟨rv, F, S, G, m, hs⟩, hd⟩ := h
    refine ⟨⟨rv, F, S, G, m, fun x => ?_⟩, hd⟩
    show RSV w S s.rt rv ((s.put i (alSrc s j k)).sl x) _
    have e := hq (i, j, k) List.mem_cons_self
    simp only [put_sl]
    split
    · rename_i hk; subst hk; exact src_rel (tm := fun i => a.tmps.getD i undef) hs j k _ e
    · exact hs x
theorem cut_rel {γ : Type} {c : Cut γ} {s : St} {a : Act} {n : Nat} {g : γ} (h : c.go n s = some g) (hr : RelE C s a w) : ∃ x, c.C n x = some g ∧ RelE C (giveCut c.slots c.pars x) a w := by
  obtain ⟨⟨rv, F, S, G, m, hs⟩, hd⟩ := hr
  unfold Cut.go at h
  cases hal : alOk s (aliS c.slots) with
  | false => rw [hal] at h; cases h
  | true =>
  rw [hal, cond_true] at h
  rw [Rd.ev_run] at h
  obtain ⟨⟨t, l⟩, h1, h2⟩ := Option.bind_eq_some_iff.1 h
  obtain ⟨Fa, Sl, K, t1, t2, _⟩ := takeL_sound m c.pars _ _ _ t _ h1 (RSVs_slots hs (plainS c.slots))
  exact ⟨t.x, h2, putAl_rel (alOk_eq hs _ hal) (giveSt_rel (forget m t1) t2 hd)⟩
end
end Go.Abs
