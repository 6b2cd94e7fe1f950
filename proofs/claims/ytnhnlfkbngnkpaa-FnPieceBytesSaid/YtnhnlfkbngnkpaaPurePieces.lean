/- What pieces that are made bring, copied or new; and what tidied pieces bring. -/
import Derived.Test.YtnhnlfkbngnkpaaPureMake
import Derived.Test.YtnhnlfkbngnkpaaPureTidy0
set_option linter.unusedVariables false
set_option linter.unusedSimpArgs false
namespace Go.Proofs.Ytnhnlfkbngnkpaa.Ops
open Go.RowKit Go.Proofs.YtnhnlfkbngnkpaaW.PrintWords Go.Proofs.YtnhnlfkbngnkpaaW.PrintLast Go.Proofs.YtnhnlfkbngnkpaaW.PrintMore Go.Proofs.Ytnhnlfkbngnkpaa.Tools Go.Proofs.Ytnhnlfkbngnkpaa.E

theorem bytes_nil (b s : ByteArray) (h : s.size = 0) : b ++ s = b := by
 have : s = ByteArray.empty := by
  apply ByteArray.ext
  exact Array.eq_empty_of_size_eq_zero h
 rw [this]; exact ByteArray.append_empty
theorem ext_join (a : ByteArray) (i j k : Nat) (h1 : i ≤ j) (h2 : j ≤ k) : a.extract i j ++ a.extract j k = a.extract i k :=
 (ByteArray.extract_eq_extract_append_extract (a := a) (i := i) (k := k) j h1 h2).symm
theorem cnt_eq (old s : ByteArray) (i : Nat) : ∀ d n j, n ≤ j → j < cnt old s i d n → bt old ((i + j : Nat) : Int) = bt s (j : Int)
 | 0, n, j, h1, h2 => by unfold cnt at h2; omega
 | d + 1, n, j, h1, h2 => by
  unfold cnt at h2
  split at h2
  ·rename_i h
   by_cases hj : j = n
   ·rw [hj]; exact h.2
   ·exact cnt_eq old s i d (n + 1) j (by omega) h2
  ·omega
theorem ext_eq (old s : ByteArray) (i m : Nat) (h1 : i + m ≤ old.size) (h2 : m ≤ s.size) (h : ∀ j, j < m → bt old ((i + j : Nat) : Int) = bt s (j : Int)) : old.extract i (i + m) = s.extract 0 m := by
 apply ByteArray.ext
 apply Array.ext
 ·show (old.extract i (i + m)).size = (s.extract 0 m).size
  rw [ByteArray.size_extract, ByteArray.size_extract]; omega
 ·intro j hj1 hj2
  have hj : j < m := by
   have : j < (s.extract 0 m).size := hj2
   rw [ByteArray.size_extract] at this; omega
  show (old.extract i (i + m))[j]'hj1 = (s.extract 0 m)[j]'hj2
  rw [ByteArray.getElem_extract, ByteArray.getElem_extract]
  have e := h j hj
  unfold bt at e
  rw [dif_pos (by simp only [Int.toNat_natCast]; omega), dif_pos (by simp only [Int.toNat_natCast]; omega)] at e
  simp only [Int.toNat_natCast] at e
  have e2 : (old[i + j]'(by omega)).toNat = (s[j]'(by omega)).toNat := by exact_mod_cast e
  have e3 := UInt8.toNat_inj.1 e2
  simpa using e3
theorem longM_eq (old s : ByteArray) : ∀ d i f m, (∀ j, j < m → bt old ((f + j : Nat) : Int) = bt s (j : Int)) → ∀ j, j < (longM old s d i f m).2 → bt old (((longM old s d i f m).1 + j : Nat) : Int) = bt s (j : Int)
 | 0, i, f, m, h => h
 | d + 1, i, f, m, h => by
  unfold longM
  split
  ·exact longM_eq old s d (i + 1) _ _ (fun j hj => cnt_eq old s i s.size 0 j (by omega) hj)
  ·exact longM_eq old s d (i + 1) _ _ h
theorem longest_ext (old s : ByteArray) : old.extract (longest old s).1 ((longest old s).1 + (longest old s).2) = s.extract 0 (longest old s).2 := by
 obtain ⟨h1, h2⟩ := longest_le old s
 exact ext_eq old s _ _ h2 h1 (longM_eq old s _ _ _ _ (fun j hj => by omega))
theorem flat_app (old : ByteArray) : ∀ (l m : List OpS) (b : ByteArray), flat old b (l ++ m) = flat old (flat old b l) m
 | [], m, b => rfl
 | o :: l, m, b => by
  show flat old (b ++ bring old o) (l ++ m) = flat old (flat old (b ++ bring old o) l) m
  exact flat_app old l m _
theorem flat_one (old b : ByteArray) (o : OpS) : flat old b [o] = b ++ bring old o := rfl
theorem flat_snoc (old : ByteArray) (l : List OpS) (o : OpS) (b : ByteArray) : flat old b (l ++ [o]) = flat old b l ++ bring old o := flat_app old l [o] b
theorem addNew_snoc (p : List OpS) (y : OpS) (x : ByteArray) : addNew (p ++ [y]) x = if y.f0 = 2 then p ++ [putData y x] else p ++ [y] ++ [⟨2, 0, 0, x⟩] := by
 have h : (p ++ [y]).length - 1 = p.length := by simp
 have hl : (p ++ [y]).length ≠ 0 := by simp
 unfold addNew
 by_cases h2 : y.f0 = 2
 ·rw [if_pos (show lastNew (p ++ [y]) from ⟨hl, by rw [h, last_at]; exact h2⟩), if_pos h2, h, last_at]; simp
 ·rw [if_neg (fun a : lastNew (p ++ [y]) => h2 (by have := a.2; rw [h, last_at] at this; exact this)), if_neg h2]
theorem addNew_nil (x : ByteArray) : addNew [] x = [⟨2, 0, 0, x⟩] := rfl
theorem bring_new (old : ByteArray) (a b : Int) (x : ByteArray) : bring old ⟨2, a, b, x⟩ = x := by unfold bring; rw [if_neg (by show ¬ (2 : Int) = 1; omega)]
theorem bring_put (old : ByteArray) (y : OpS) (x : ByteArray) (h : y.f0 = 2) : bring old (putData y x) = bring old y ++ x := by
 unfold bring putData
 rw [if_neg (by show ¬ y.f0 = 1; omega), if_neg (by omega)]
/-- What is known of pieces that are made: each is good, and copies at least so much. -/
def Made (old : ByteArray) (least : Int) (out : List OpS) : Prop := allOk old out ∧ ∀ o ∈ out, o.f0 = 1 → least ≤ o.f2
theorem made_snoc {old : ByteArray} {least : Int} {p : List OpS} {y : OpS} : Made old least (p ++ [y]) ↔ Made old least p ∧ ok old y ∧ (y.f0 = 1 → least ≤ y.f2) := by
 unfold Made
 rw [qCc, qCb]
 constructor
 ·rintro ⟨⟨a, b, _⟩, c⟩
  exact ⟨⟨a, fun o ho => c o (List.mem_append_left _ ho)⟩, b, c y (by simp)⟩
 ·rintro ⟨⟨a, c⟩, b, d⟩
  refine ⟨⟨a, b, qvc _⟩, fun o ho => ?_⟩
  rcases List.mem_append.1 ho with ho | ho
  ·exact c o ho
  ·rw [List.mem_singleton.1 ho]; exact d
theorem made_nil (old : ByteArray) (least : Int) : Made old least [] := ⟨qvc _, fun o ho => by cases ho⟩
theorem ok_new (old x : ByteArray) (h1 : 1 ≤ x.size) (h2 : x.size ≤ 300) : ok old ⟨2, 0, 0, x⟩ := Or.inr ⟨rfl, rfl, rfl, h1, h2⟩
theorem addNew_made {old : ByteArray} {least : Int} {out : List OpS} {x : ByteArray} {n : Nat} (hx : x.size = 1) (hm : Mk out (n + 1)) (h : Made old least out) (b : ByteArray) :
  Made old least (addNew out x) ∧ flat old b (addNew out x) = flat old b out ++ x := by
 have hnew := ok_new old x (by omega) (by omega)
 rcases List.eq_nil_or_concat out with rfl | ⟨p, y, rfl⟩
 ·rw [addNew_nil]
  refine ⟨?_, ?_⟩
  ·rw [← List.nil_append [_], made_snoc]
   exact ⟨made_nil _ _, hnew, fun a => by have : (2 : Int) = 1 := a; omega⟩
  ·rw [flat_one, bring_new]; rfl
 ·rw [List.concat_eq_append] at *
  rw [addNew_snoc]
  by_cases h2 : y.f0 = 2
  ·rw [if_pos h2]
   have h' := made_snoc.1 h
   have hs := hm.2 y (by simp)
   refine ⟨made_snoc.2 ⟨h'.1, ?_, fun a => ?_⟩, ?_⟩
   ·have ho := h'.2.1
    unfold ok at ho
    unfold ok putData
    simp only [ByteArray.size_append]
    omega
   ·have : y.f0 = 1 := a
    omega
   ·rw [flat_snoc, flat_snoc, bring_put _ _ _ h2, ByteArray.append_assoc]
  ·rw [if_neg h2]
   refine ⟨made_snoc.2 ⟨h, hnew, fun a => by have : (2 : Int) = 1 := a; omega⟩, ?_⟩
   rw [flat_snoc, bring_new]
theorem make_all (old : ByteArray) (ho : old.size ≤ 300) (least : Int) (hle : 1 ≤ least) : ∀ d (s : ByteArray) (out : List OpS), s.size ≤ d → Mk out s.size → Made old least out →
  Made old least (makeM old least d s out) ∧ (∀ b, flat old b (makeM old least d s out) = flat old b out ++ s) ∧ (makeM old least d s out).length ≤ 300 := by
 intro d
 induction d with
 | zero =>
  intro s out hs hm h
  have h0 : s.size = 0 := by omega
  unfold makeM
  exact ⟨h, fun b => (bytes_nil _ _ h0).symm, by have := hm.1; omega⟩
 | succ d ih =>
  intro s out hs hm h
  unfold makeM
  split
  ·rename_i h0
   exact ⟨h, fun b => (bytes_nil _ _ h0).symm, by have := hm.1; omega⟩
  ·rename_i h0
   obtain ⟨hL, hL2⟩ := longest_le old s
   split
   ·rename_i hge
    have hz : (s.extract (longest old s).2 s.size).size = s.size - (longest old s).2 := size_ext _ _ _ (by omega)
    obtain ⟨a1, a2, a3⟩ := ih (s.extract (longest old s).2 s.size) (out ++ [⟨1, (longest old s).1, (longest old s).2, ⟨#[]⟩⟩]) (by rw [hz]; omega) (by rw [hz]; exact hm.copy (by omega) _ _)
     (made_snoc.2 ⟨h, Or.inl ⟨rfl, rfl, by show (1 : Int) ≤ ((longest old s).2 : Int); omega, by show (0 : Int) ≤ ((longest old s).1 : Int); omega, by show ((longest old s).1 : Int) + ((longest old s).2 : Int) ≤ _; omega⟩, fun _ => hge⟩)
    refine ⟨a1, fun b => ?_, a3⟩
    rw [a2, flat_snoc]
    have hb : bring old ⟨1, (longest old s).1, (longest old s).2, ⟨#[]⟩⟩ = s.extract 0 (longest old s).2 := by
     unfold bring
     rw [if_pos rfl]
     show old.extract ((longest old s).1 : Int).toNat (((longest old s).1 : Int) + ((longest old s).2 : Int)).toNat = _
     rw [← longest_ext]
     congr 1
    rw [hb, ByteArray.append_assoc, ext_join _ _ _ _ (by omega) (by omega), ByteArray.extract_zero_size]
   ·have hz1 : (s.extract 0 1).size = 1 := size_ext _ _ _ (by omega)
    have hz : (s.extract 1 s.size).size = s.size - 1 := size_ext _ _ _ (by omega)
    have hm' : Mk out ((s.size - 1) + 1) := by rw [Nat.sub_add_cancel (by omega)]; exact hm
    obtain ⟨a1, a2, a3⟩ := ih (s.extract 1 s.size) (addNew out (s.extract 0 1)) (by rw [hz]; omega) (by rw [hz]; exact Mk.add hm' hz1) (addNew_made hz1 hm' h ⟨#[]⟩).1
    refine ⟨a1, fun b => ?_, a3⟩
    rw [a2, (addNew_made hz1 hm' h b).2, ByteArray.append_assoc, ext_join _ _ _ _ (by omega) (by omega), ByteArray.extract_zero_size]
theorem flat_sum (old : ByteArray) : ∀ (l : List OpS) (out : ByteArray), allOk old l → ((flat old out l).size : Int) = out.size + sum l
 | [], out, _ => by rw [sum_nil]; unfold flat; omega
 | o :: l, out, h => by
  rw [qCb] at h
  unfold flat
  rw [flat_sum old l _ h.2, ByteArray.size_append, sum_cons]
  have := bring_size h.1
  omega
theorem bring_copy (old : ByteArray) (o : OpS) (h : o.f0 = 1) : bring old o = old.extract o.f1.toNat (o.f1 + o.f2).toNat := by unfold bring; rw [if_pos h]
theorem bring_else (old : ByteArray) (o : OpS) (h : o.f0 = 2) : bring old o = o.f3 := by unfold bring; rw [if_neg (by omega)]
theorem join_flat {old : ByteArray} {y o : OpS} (hy : ok old y) (ho : ok old o) (b : ByteArray) : flat old b (join y o) = b ++ bring old y ++ bring old o := by
 unfold join
 by_cases h0 : y.f0 = o.f0
 ·rw [if_pos h0]
  by_cases h1 : o.f0 = 2
  ·rw [if_pos h1, flat_one, bring_else _ _ (by show y.f0 = 2; omega), bring_else _ y (by omega), bring_else _ o h1, ByteArray.append_assoc]
  ·rw [if_neg h1]
   by_cases h2 : y.f1 + y.f2 = o.f1
   ·have hy1 : y.f0 = 1 := by unfold ok at ho; omega
    have ho1 : o.f0 = 1 := by omega
    rw [if_pos h2, flat_one, bring_copy _ _ (by show y.f0 = 1; exact hy1), bring_copy _ y hy1, bring_copy _ o ho1, ByteArray.append_assoc]
    unfold ok at hy ho
    rw [h2, ext_join _ _ _ _ (by omega) (by omega)]
    congr 2
    show (y.f1 + (y.f2 + o.f2)).toNat = _
    omega
   ·rw [if_neg h2]; rfl
 ·rw [if_neg h0]; rfl
theorem push_flat {old : ByteArray} {out : List OpS} {o : OpS} (h : allOk old out) (ho : ok old o) (b : ByteArray) : flat old b (push out o) = flat old b out ++ bring old o := by
 rcases List.eq_nil_or_concat out with rfl | ⟨p, y, rfl⟩
 ·rfl
 ·rw [List.concat_eq_append] at *
  rw [qCc, qCb] at h
  rw [push_app, flat_app, join_flat h.2.1 ho, flat_snoc]
theorem tidy_flat {old : ByteArray} {l : List OpS} (hok : allOk old l) (b : ByteArray) : ∀ (d i : Nat) (out : List OpS), l.length - i = d → i ≤ l.length → Tid old l i out → flat old b (tidyM out (l.drop i)) = flat old (flat old b out) (l.drop i) := by
 intro d
 induction d with
 | zero =>
  intro i out hd hi h
  obtain rfl : i = l.length := by omega
  rw [List.drop_length]; rfl
 | succ d ih =>
  intro i out hd hi h
  have hlt : i < l.length := by omega
  rw [qpc hlt z]
  unfold tidyM
  rw [ih (i + 1) _ (by omega) (by omega) (Tid_next hok hlt h), push_flat h.1 (hok _ (qoc hlt z))]
  rfl
/-- What tidied pieces are: good, and they bring the same. -/
theorem tidy_good {old : ByteArray} {l : List OpS} (h : Good old l) : Good old (tidyM [] l) ∧ (∀ b, flat old b (tidyM [] l) = flat old b l) ∧ (tidyM [] l).length ≤ l.length := by
 have t := tidy_len h.1 _ 0 [] rfl (by omega) (Tid_zero h)
 rw [List.drop_zero] at t
 have hl := h.2.2.1
 obtain ⟨t1, t2, t3⟩ := t
 rw [List.drop_length, sum_nil] at t3
 refine ⟨⟨t1, h.2.1, by omega, by omega⟩, fun b => ?_, t2⟩
 have := tidy_flat h.1 b _ 0 [] rfl (by omega) (Tid_zero h)
 rw [List.drop_zero] at this
 exact this
/-- What is made is good, brings what it was made for, and copies no less than told. -/
theorem make_good {old s : ByteArray} {least : Int} (h : old.size ≤ 300 ∧ s.size ≤ 300 ∧ 1 ≤ least ∧ least ≤ 300) :
  Good old (makeOps old s least).1 ∧ flat old ⟨#[]⟩ (makeOps old s least).1 = s ∧ (∀ o ∈ (makeOps old s least).1, o.f0 = 1 → least ≤ o.f2) ∧ sum (makeOps old s least).1 = s.size ∧ (makeOps old s least).2 = true := by
 unfold makeOps
 rw [if_pos h]
 obtain ⟨a1, a2, a3⟩ := make_all old h.1 least h.2.2.1 s.size s [] (by omega) (Mk_nil h.2.1) (made_nil _ _)
 have hf : flat old ⟨#[]⟩ (makeM old least s.size s []) = s := by
  rw [a2]
  show (ByteArray.empty : ByteArray) ++ s = s
  exact ByteArray.empty_append
 have hs := flat_sum old _ ⟨#[]⟩ a1.1
 rw [hf] at hs
 have h0 : (⟨#[]⟩ : ByteArray).size = 0 := rfl
 rw [h0] at hs
 exact ⟨⟨a1.1, h.1, a3, by show sum (makeM old least s.size s []) ≤ 300; omega⟩, hf, a1.2, by show sum (makeM old least s.size s []) = (s.size : Int); omega, rfl⟩
end Go.Proofs.Ytnhnlfkbngnkpaa.Ops
