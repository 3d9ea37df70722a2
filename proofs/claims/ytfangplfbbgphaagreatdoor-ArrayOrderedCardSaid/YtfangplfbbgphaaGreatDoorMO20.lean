/- Several texts in one. -/
import Derived.Shelf.Strings.Builder1
import Derived.Shelf.Small.Bits
import Derived.Shelf.Strings.BuilderF
import Derived.Shelf.Strings.BuilderK
import Derived.Shelf.Strconv.Itoa0
import Derived.Shelf.Strconv.Itoa1
import Derived.Shelf.LaysM
import Derived.Shelf.Strconv.Itoa2
import Derived.Shelf.Strconv.Itoa3
import Derived.Shelf.Strconv.Itoa4
import Derived.Shelf.Strconv.ParseIntEmpty
import Derived.Shelf.Strconv.Clone
import Derived.Shelf.Strconv.SyntaxError
import Derived.Shelf.LaysC
import Derived.Shelf.Strconv.ToError
import Derived.Shelf.Strconv.Lower
import Derived.Shelf.Strconv.ParseUint10
import Derived.Shelf.Strconv.ParseUint10Empty
import Derived.Shelf.Strconv.ParseUint10Any
import Derived.Shelf.Strconv.ParseInt10
import Derived.Shelf.Strconv.RangeError
import Derived.Shelf.Strconv.ToErrorRange
import Derived.Shelf.Strconv.ParseUintEmpty
import Derived.Shelf.Strconv.ParseUint10b64
import Derived.Shelf.Strconv.ParseUint10b32
import Derived.Shelf.Strconv.ParseUint10b16
import Derived.Shelf.Strconv.ParseUint10b8
import Derived.Shelf.Strconv.ParseUint10At
import Derived.Shelf.Strconv.ParseInt10At64
import Derived.Shelf.Strconv.ParseInt10At32
import Derived.Shelf.Strconv.ParseInt10At16
import Derived.Shelf.Strconv.ParseInt10At8
import Derived.Shelf.Strconv.ParseInt10All
import Derived.Shelf.Strconv.ParseIntPublic10
import Derived.Shelf.Strconv.ErrVarParseInt
import Derived.Shelf.Strings.Search1
import Derived.Shelf.Strings.Search2
import Derived.Shelf.Strings.Cut
import Derived.Shelf.Strings.Shaped
import Derived.Shelf.Bits.Mul64
import Derived.Shelf.Strings.BuilderCap
import Derived.Test.YtfangplfbbgphaaGreatDoorProg
import Derived.Lib.Builder
import Derived.Lib.AppendStr
import Derived.Lib.UnsafeStr
import Derived.Lib.Strings
import Derived.Lib.Walk
import Derived.WalkKit
import Derived.Laws.Externs
import Derived.Lib.ItoaNum
import Derived.Lib.ItoaMem
import Derived.Lib.ItoaLen
import Derived.Lib.ParseIntB
import Derived.Lib.IndexMore
import Derived.Lib.IndexBytes
import Derived.Lib.IndexLaws
import Derived.Lib.AtoiErrMem
import Derived.Lib.ParseIntBTie
import Derived.Lib.AppendIntMem
import Derived.Test.YtfangplfbbgphaaGreatDoorMO00
import Derived.Test.YtfangplfbbgphaaGreatDoorMO01
import Derived.Test.YtfangplfbbgphaaGreatDoorMO11
import Derived.Test.YtfangplfbbgphaaGreatDoorMO19
namespace Go.Proofs.YtfangplfbbgphaaGreatDoor
set_option linter.unusedVariables false
set_option maxRecDepth 100000
set_option linter.unusedSimpArgs false
theorem negV_negV (v : V6) : negV (negV v) = v := by cases v; simp [negV]
structure ClInv (L : Nat × Nat → V6) (cs : List Cl) (D : List (Nat × Nat)) : Prop where
 ne : ∀ c ∈ cs, c.2 ≠ []
 apart : ∀ (i j : Nat) (c d : Cl), i < j → cs[i]? = some c → cs[j]? = some d → c.1 ≠ d.1 ∧ c.1 ≠ negV d.1
 line : ∀ c ∈ cs, ∀ (m : Nat) (p : Nat × Nat), c.2[m]? = some p → L p = c.1 ∨ (m ≠ 0 ∧ L p = negV c.1)
 cnt : ∀ q, (cs.flatMap (·.2)).count q = D.count q
 src : ∀ c ∈ cs, ∃ p ∈ D, c.1 = L p
theorem putC_mem {p : Nat × Nat} {v b : V6} : ∀ {cs : List Cl} {c : Cl}, c ∈ putC p v b cs → c ∈ cs ∨ c = (v, [p]) ∨ ∃ d ∈ cs, hitC v b d = true ∧ c = (d.1, d.2 ++ [p])
 | [], c, h => by simp [putC] at h; exact .inr (.inl h)
 | d :: cs, c, h => by
  unfold putC at h
  split at h
  ·rename_i hh
   rcases List.mem_cons.1 h with rfl | h
   ·exact .inr (.inr ⟨d, List.mem_cons_self .., hh, rfl⟩)
   ·exact .inl (List.mem_cons_of_mem _ h)
  ·rcases List.mem_cons.1 h with rfl | h
   ·exact .inl (List.mem_cons_self ..)
   ·rcases putC_mem h with h | h | ⟨d', h1, h2⟩
    ·exact .inl (List.mem_cons_of_mem _ h)
    ·exact .inr (.inl h)
    ·exact .inr (.inr ⟨d', List.mem_cons_of_mem _ h1, h2⟩)
theorem putC_cnt {p : Nat × Nat} {v b : V6} (q : Nat × Nat) : ∀ {cs : List Cl}, ((putC p v b cs).flatMap (·.2)).count q = (cs.flatMap (·.2)).count q + [p].count q
 | [] => by simp [putC]
 | d :: cs => by
  unfold putC
  split
  ·simp only [List.flatMap_cons, List.count_append]; omega
  ·simp only [List.flatMap_cons, List.count_append]; rw [putC_cnt q]; omega
theorem putC_vecs {p : Nat × Nat} {v b : V6} : ∀ {cs : List Cl}, (putC p v b cs).map (·.1) = cs.map (·.1) ∨ ((putC p v b cs).map (·.1) = cs.map (·.1) ++ [v] ∧ ∀ c ∈ cs, c.1 ≠ v ∧ c.1 ≠ b)
 | [] => .inr ⟨rfl, by simp⟩
 | d :: cs => by
  unfold putC
  split
  ·exact .inl rfl
  ·rename_i hh
   rcases putC_vecs (p := p) (v := v) (b := b) (cs := cs) with h | ⟨h, h'⟩
   ·exact .inl (by simp only [List.map_cons, h])
   ·refine .inr ⟨by simp only [List.map_cons, h, List.cons_append], fun c hc => ?_⟩
    rcases List.mem_cons.1 hc with rfl | hc
    ·unfold hitC at hh
     simp only [Bool.or_eq_true, decide_eq_true_eq, not_or] at hh
     exact hh
    ·exact h' c hc
theorem ClInv.nil (L : Nat × Nat → V6) : ClInv L [] [] := ⟨by simp, by simp, by simp, by simp, by simp⟩
theorem ClInv.put {L : Nat × Nat → V6} {cs : List Cl} {D : List (Nat × Nat)} (h : ClInv L cs D) (p : Nat × Nat) : ClInv L (putC p (L p) (negV (L p)) cs) (D ++ [p]) where
 ne := fun c hc => by
  rcases putC_mem hc with h1 | rfl | ⟨d, _, _, rfl⟩
  ·exact h.ne c h1
  ·simp
  ·simp
 apart := fun i j c d hij hi hj => by
  have vi : ((putC p (L p) (negV (L p)) cs).map (·.1))[i]? = some c.1 := by rw [List.getElem?_map, hi]; rfl
  have vj : ((putC p (L p) (negV (L p)) cs).map (·.1))[j]? = some d.1 := by rw [List.getElem?_map, hj]; rfl
  have old : ∀ (a b : V6), (cs.map (·.1))[i]? = some a → (cs.map (·.1))[j]? = some b → a ≠ b ∧ a ≠ negV b := fun a b ha hb => by
   rw [List.getElem?_map] at ha hb
   obtain ⟨c', hc', rfl⟩ := Option.map_eq_some_iff.1 ha
   obtain ⟨d', hd', rfl⟩ := Option.map_eq_some_iff.1 hb
   exact h.apart i j c' d' hij hc' hd'
  rcases putC_vecs (p := p) (v := L p) (b := negV (L p)) (cs := cs) with e | ⟨e, hno⟩
  ·rw [e] at vi vj
   exact old _ _ vi vj
  ·rw [e] at vi vj
   have hjl := (List.getElem?_eq_some_iff.1 vj).1
   simp only [List.length_append, List.length_map, List.length_cons, List.length_nil] at hjl
   rw [List.getElem?_append_left (by rw [List.length_map]; omega)] at vi
   by_cases hj' : j < cs.length
   ·rw [List.getElem?_append_left (by rw [List.length_map]; exact hj')] at vj
    exact old _ _ vi vj
   ·have e2 : j = (cs.map (·.1)).length := by rw [List.length_map]; omega
    rw [e2, List.getElem?_concat_length] at vj
    injection vj with vj
    rw [← vj]
    rw [List.getElem?_map] at vi
    obtain ⟨c', hc', e3⟩ := Option.map_eq_some_iff.1 vi
    rw [← e3]
    exact hno c' (List.mem_of_getElem? hc')
 line := fun c hc m q hq => by
  rcases putC_mem hc with h1 | rfl | ⟨d, h1, hh, rfl⟩
  ·exact h.line c h1 m q hq
  ·left
   cases m with
   | zero => simp at hq; rw [hq]
   | succ m => simp at hq
  ·simp only at hq ⊢
   by_cases hm : m < d.2.length
   ·rw [List.getElem?_append_left hm] at hq
    exact h.line d h1 m q hq
   ·have hml := (List.getElem?_eq_some_iff.1 hq).1
    simp only [List.length_append, List.length_cons, List.length_nil] at hml
    have e2 : m = d.2.length := by omega
    rw [e2, List.getElem?_concat_length] at hq
    injection hq with hq
    subst hq
    unfold hitC at hh
    simp only [Bool.or_eq_true, decide_eq_true_eq] at hh
    rcases hh with hh | hh
    ·exact .inl hh.symm
    ·refine .inr ⟨?_, by rw [hh, negV_negV]⟩
     have := h.ne d h1
     cases hd : d.2 with
     | nil => exact absurd hd this
     | cons a t => rw [e2, hd]; simp
 cnt := fun q => by rw [putC_cnt, h.cnt, List.count_append]
 src := fun c hc => by
  rcases putC_mem hc with h1 | rfl | ⟨d, h1, hh, rfl⟩
  ·obtain ⟨x, hx, e⟩ := h.src c h1; exact ⟨x, List.mem_append_left _ hx, e⟩
  ·exact ⟨p, by simp, rfl⟩
  ·obtain ⟨x, hx, e⟩ := h.src d h1; exact ⟨x, List.mem_append_left _ hx, e⟩
def pairsOf {α : Type} : List α → List (α × α)
 | [] => []
 | a :: l => l.map (fun b => (a, b)) ++ pairsOf l
theorem pairsOf_map {α β : Type} (f : α → β) : ∀ l : List α, pairsOf (l.map f) = (pairsOf l).map fun p => (f p.1, f p.2)
 | [] => rfl
 | a :: l => by simp only [List.map_cons, pairsOf, List.map_append, pairsOf_map f l, List.map_map]; rfl
theorem pairsOf_mem {α : Type} : ∀ {l : List α} {p : α × α}, p ∈ pairsOf l → p.1 ∈ l ∧ p.2 ∈ l
 | [], p, h => by cases h
 | a :: l, p, h => by
  unfold pairsOf at h
  rcases List.mem_append.1 h with h | h
  ·obtain ⟨b, hb, rfl⟩ := List.mem_map.1 h
   exact ⟨List.mem_cons_self .., List.mem_cons_of_mem _ hb⟩
  ·obtain ⟨h1, h2⟩ := pairsOf_mem h
   exact ⟨List.mem_cons_of_mem _ h1, List.mem_cons_of_mem _ h2⟩
theorem pairs_perm {α : Type} {F : α × α → Bool} (hs : ∀ a b, F (a, b) = F (b, a)) {l m : List α} (h : l.Perm m) : (pairsOf l).countP F = (pairsOf m).countP F := by
 induction h with
 | nil => rfl
 | cons a h ih => simp only [pairsOf, List.countP_append, ih]; rw [(h.map _).countP_eq F]
 | swap a b l =>
  simp only [pairsOf, List.map_cons, List.cons_append, List.countP_cons, List.countP_append, hs a b]
  omega
 | trans _ _ h1 h2 => exact h1.trans h2
def prsP (n : Nat) : Bool := decide (prs n = pairsOf (List.range n))
theorem prsP_all : (List.range 9).all prsP = true := by decide +kernel
theorem prs_pairs {n : Nat} (h : n < 9) : prs n = pairsOf (List.range n) := by
 have := List.all_eq_true.1 prsP_all n (List.mem_range.2 h)
 exact of_decide_eq_true this
theorem list_range {α : Type} (d : α) (l : List α) : (List.range l.length).map (fun i => l.getD i d) = l := by
 apply List.ext_getElem?
 intro i
 by_cases h : i < l.length
 ·rw [List.getElem?_map, List.getElem?_range h]; simp [List.getD_eq_getElem?_getD, List.getElem?_eq_getElem h]
 ·rw [List.getElem?_eq_none (by simp; omega), List.getElem?_eq_none (by omega)]
theorem prs_map {α : Type} (d : α) {l : List α} (h : l.length < 9) : (prs l.length).map (fun p => (l.getD p.1 d, l.getD p.2 d)) = pairsOf l := by
 rw [prs_pairs h, ← pairsOf_map (fun i => l.getD i d), list_range]
def isPM (u v : V6) : Bool := decide (u = v) || decide (u = negV v)
theorem isPM_iff {u v : V6} : isPM u v = true ↔ u = v ∨ u = negV v := by unfold isPM; simp
theorem isPM_neg (u v : V6) : isPM (negV u) v = isPM u v := by
 rw [Bool.eq_iff_iff, isPM_iff, isPM_iff]
 constructor
 ·rintro (h | h)
  ·right; rw [← h, negV_negV]
  ·left; have := congrArg negV h; rwa [negV_negV, negV_negV] at this
 ·rintro (h | h)
  ·right; rw [h]
  ·left; rw [h, negV_negV]
theorem isPM_comm (u v : V6) : isPM u v = isPM v u := by
 rw [Bool.eq_iff_iff, isPM_iff, isPM_iff]
 constructor
 ·rintro (h | h)
  ·exact .inl h.symm
  ·right; rw [h, negV_negV]
 ·rintro (h | h)
  ·exact .inl h.symm
  ·right; rw [h, negV_negV]
theorem isPM_of {u v : V6} (h : isPM u v = true) (x : V6) : isPM x u = isPM x v := by
 rcases isPM_iff.1 h with rfl | rfl
 ·rfl
 ·rw [isPM_comm, isPM_neg, isPM_comm]
theorem isPM_self (v : V6) : isPM v v = true := by unfold isPM; simp
section
variable {α : Type} {ln : α → α → V6}
def lnOf (ln : α → α → V6) (l : List α) (p : Nat × Nat) : V6 := match l[p.1]?, l[p.2]? with | some s, some t => ln s t | _, _ => zV
def symF (ln : α → α → V6) (v : V6) (p : α × α) : Bool := isPM (ln p.1 p.2) v || isPM (ln p.2 p.1) v
theorem symF_comm (ln : α → α → V6) (v : V6) (a b : α) : symF ln v (a, b) = symF ln v (b, a) := Bool.or_comm _ _
theorem prs_in {n : Nat} (h : n < 9) {p : Nat × Nat} (hp : p ∈ prs n) : p.1 < n ∧ p.2 < n := by
 rw [prs_pairs h] at hp
 obtain ⟨h1, h2⟩ := pairsOf_mem hp
 exact ⟨List.mem_range.1 h1, List.mem_range.1 h2⟩
theorem lnOf_at {l : List α} {p : Nat × Nat} (h : l.length < 9) (hp : p ∈ prs l.length) : ∃ s t, l[p.1]? = some s ∧ l[p.2]? = some t ∧ s ∈ l ∧ t ∈ l ∧ lnOf ln l p = ln s t := by
 obtain ⟨h1, h2⟩ := prs_in h hp
 obtain ⟨s, hs⟩ := get_some h1
 obtain ⟨t, ht⟩ := get_some h2
 exact ⟨s, t, hs, ht, List.mem_of_getElem? hs, List.mem_of_getElem? ht, by unfold lnOf; rw [hs, ht]⟩
theorem count_pairs {l : List α} (h : l.length < 9) (ho : ∀ s ∈ l, ∀ t ∈ l, ln t s = negV (ln s t)) (v : V6) :
  (prs l.length).countP (fun p => isPM (lnOf ln l p) v) = (pairsOf l).countP (symF ln v) := by
 cases l with
 | nil => rfl
 | cons d l' =>
  rw [← prs_map d h, List.countP_map]
  apply List.countP_congr
  intro p hp
  obtain ⟨s, t, hs, ht, ms, mt, e⟩ := lnOf_at (ln := ln) h hp
  rw [e]
  simp only [Function.comp, symF, List.getD_eq_getElem?_getD, hs, ht, Option.getD_some]
  rw [ho s ms t mt, isPM_neg, Bool.or_self]
theorem ClInv.pm {L : Nat × Nat → V6} {cs : List Cl} {D : List (Nat × Nat)} (h : ClInv L cs D) {c : Cl} (hc : c ∈ cs) {p : Nat × Nat} (hp : p ∈ c.2) : isPM (L p) c.1 = true := by
 obtain ⟨m, hm⟩ := List.mem_iff_getElem?.1 hp
 rcases h.line c hc m p hm with e | ⟨_, e⟩
 ·rw [e]; exact isPM_self _
 ·exact isPM_iff.2 (.inr e)
theorem ClInv.far {L : Nat × Nat → V6} {cs : List Cl} {D : List (Nat × Nat)} (h : ClInv L cs D) {i j : Nat} {c d : Cl} (hi : cs[i]? = some c) (hj : cs[j]? = some d) (hij : i ≠ j) : isPM c.1 d.1 = false := by
 rw [Bool.eq_false_iff]
 intro hp
 rcases Nat.lt_or_gt_of_ne hij with h1 | h1
 ·have := h.apart i j c d h1 hi hj
  rcases isPM_iff.1 hp with e | e
  ·exact this.1 e
  ·exact this.2 e
 ·have := h.apart j i d c h1 hj hi
  rw [isPM_comm] at hp
  rcases isPM_iff.1 hp with e | e
  ·exact this.1 e
  ·exact this.2 e
theorem split_at {β : Type} {cs : List β} {i : Nat} {c : β} (h : cs[i]? = some c) : cs = cs.take i ++ c :: cs.drop (i + 1) := by
 obtain ⟨h1, h2⟩ := List.getElem?_eq_some_iff.1 h
 rw [← h2, ← List.drop_eq_getElem_cons h1, List.take_append_drop]
theorem ClInv.size {L : Nat × Nat → V6} {cs : List Cl} {D : List (Nat × Nat)} (h : ClInv L cs D) {i : Nat} {c : Cl} (hi : cs[i]? = some c) : c.2.length = D.countP (fun p => isPM (L p) c.1) := by
 have hp : (cs.flatMap (·.2)).Perm D := List.perm_iff_count.2 h.cnt
 rw [← hp.countP_eq, split_at hi]
 simp only [List.flatMap_append, List.flatMap_cons, List.countP_append]
 have hmc := List.mem_of_getElem? hi
 have z1 : ((cs.take i).flatMap (·.2)).countP (fun p => isPM (L p) c.1) = 0 := by
  rw [List.countP_eq_zero]
  intro p hp
  obtain ⟨d, hd, hpd⟩ := List.mem_flatMap.1 hp
  obtain ⟨j, hj⟩ := List.mem_iff_getElem?.1 hd
  rw [List.getElem?_take] at hj
  split at hj
  ·rename_i hlt
   have h1 := h.pm (List.mem_of_getElem? hj) hpd
   have h2 := h.far hi hj (by omega)
   rw [← isPM_of h1, isPM_comm] at h2
   rw [h2]; simp
  ·cases hj
 have z2 : ((cs.drop (i + 1)).flatMap (·.2)).countP (fun p => isPM (L p) c.1) = 0 := by
  rw [List.countP_eq_zero]
  intro p hp
  obtain ⟨d, hd, hpd⟩ := List.mem_flatMap.1 hp
  obtain ⟨j, hj⟩ := List.mem_iff_getElem?.1 hd
  rw [List.getElem?_drop] at hj
  have h1 := h.pm (List.mem_of_getElem? hj) hpd
  have h2 := h.far hi hj (by omega)
  rw [← isPM_of h1, isPM_comm] at h2
  rw [h2]; simp
 have z3 : c.2.countP (fun p => isPM (L p) c.1) = c.2.length := List.countP_eq_length.2 fun p hp => h.pm hmc hp
 rw [z1, z2, z3]; omega
theorem cls_match {l m : List α} (h8 : l.length < 9) (hp : l.Perm m) (ho : ∀ s ∈ l, ∀ t ∈ l, ln t s = negV (ln s t)) {cs ds : List Cl} (hc : ClInv (lnOf ln l) cs (prs l.length)) (hd : ClInv (lnOf ln m) ds (prs m.length))
  {c : Cl} (hi : c ∈ cs) : ∃ (j : Nat) (d : Cl), ds[j]? = some d ∧ isPM d.1 c.1 = true ∧ d.2.length = c.2.length := by
 have hm8 : m.length < 9 := by rw [← hp.length_eq]; exact h8
 have ho' : ∀ s ∈ m, ∀ t ∈ m, ln t s = negV (ln s t) := fun s hs t ht => ho s (hp.mem_iff.2 hs) t (hp.mem_iff.2 ht)
 obtain ⟨i, hi'⟩ := List.mem_iff_getElem?.1 hi
 have h1 := hc.size hi'
 have pos : 0 < c.2.length := List.length_pos_iff.2 (hc.ne c hi)
 have e : ∀ v, (prs l.length).countP (fun p => isPM (lnOf ln l p) v) = (prs m.length).countP (fun p => isPM (lnOf ln m p) v) := fun v => by
  rw [count_pairs h8 ho, count_pairs hm8 ho', pairs_perm (symF_comm ln v) hp]
 rw [e] at h1
 rw [h1] at pos
 obtain ⟨p, hpm, hpp⟩ := List.countP_pos_iff.1 pos
 have hin : 0 < (ds.flatMap (·.2)).count p := by rw [hd.cnt]; exact List.count_pos_iff.2 hpm
 obtain ⟨d, hdm, hpd⟩ := List.mem_flatMap.1 (List.count_pos_iff.1 hin)
 obtain ⟨j, hj⟩ := List.mem_iff_getElem?.1 hdm
 have h2 := hd.pm hdm hpd
 have h3 : isPM d.1 c.1 = true := by rw [isPM_comm, isPM_of (by rw [isPM_comm]; exact h2), isPM_comm]; exact hpp
 refine ⟨j, d, hj, h3, ?_⟩
 rw [hd.size hj, h1]
 apply List.countP_congr
 intro q _
 rw [isPM_of h3]
theorem nodup_le {β : Type} [DecidableEq β] : ∀ {xs ys : List β}, xs.Nodup → (∀ x ∈ xs, x ∈ ys) → xs.length ≤ ys.length
 | [], _, _, _ => Nat.zero_le _
 | x :: xs, ys, hn, hs => by
  obtain ⟨h1, h2⟩ := List.nodup_cons.1 hn
  have hx := hs x (List.mem_cons_self ..)
  have := nodup_le (ys := ys.erase x) h2 (fun y hy => (List.mem_erase_of_ne (fun e => h1 (by rw [← e]; exact hy))).2 (hs y (List.mem_cons_of_mem _ hy)))
  rw [List.length_erase_of_mem hx] at this
  have := List.length_pos_of_mem hx
  simp only [List.length_cons]; omega
theorem nodup_perm {β : Type} [DecidableEq β] : ∀ {xs ys : List β}, xs.Nodup → (∀ x ∈ xs, x ∈ ys) → ys.length ≤ xs.length → xs.Perm ys
 | [], ys, _, _, hl => by
  cases ys with
  | nil => exact .nil
  | cons y ys => simp at hl
 | x :: xs, ys, hn, hs, hl => by
  obtain ⟨h1, h2⟩ := List.nodup_cons.1 hn
  have hx := hs x (List.mem_cons_self ..)
  have := nodup_perm (ys := ys.erase x) h2 (fun y hy => (List.mem_erase_of_ne (fun e => h1 (by rw [← e]; exact hy))).2 (hs y (List.mem_cons_of_mem _ hy))) (by
   rw [List.length_erase_of_mem hx]; simp only [List.length_cons] at hl; omega)
  exact (this.cons x).trans (List.perm_cons_erase hx).symm
def posB (v : V6) : Bool := decide (0 < v.x1 ∨ (v.x1 = 0 ∧ (0 < v.y1 ∨ (v.y1 = 0 ∧ 0 ≤ v.z1))))
def nrm (v : V6) : V6 := if posB v then v else negV v
theorem nrm_pm (v : V6) : isPM (nrm v) v = true := by
 unfold nrm
 split
 ·exact isPM_self v
 ·exact isPM_iff.2 (.inr rfl)
theorem posB_cases (v : V6) : (posB (negV v) = !posB v) ∨ negV v = v := by
 rcases v with ⟨a, b, c, d, e, f⟩
 by_cases h : a = 0 ∧ c = 0 ∧ e = 0
 ·right
  obtain ⟨rfl, rfl, rfl⟩ := h
  rfl
 ·left
  unfold posB negV
  simp only
  rw [← decide_not]
  apply decide_eq_decide.2
  omega
theorem nrm_neg (v : V6) : nrm (negV v) = nrm v := by
 rcases posB_cases v with h | h
 ·unfold nrm
  rw [h]
  cases posB v <;> simp [negV_negV]
 ·rw [h]
theorem nrm_of {u v : V6} (h : isPM u v = true) : nrm u = nrm v := by
 rcases isPM_iff.1 h with rfl | rfl
 ·rfl
 ·exact nrm_neg v
theorem nrm_to {u v : V6} (h : nrm u = nrm v) : isPM u v = true := by
 have h1 := nrm_pm u
 rw [h, isPM_comm] at h1
 rw [isPM_of (by rw [isPM_comm]; exact nrm_pm v)]; exact h1
theorem cls_le {l m : List α} (h8 : l.length < 9) (hp : l.Perm m) (ho : ∀ s ∈ l, ∀ t ∈ l, ln t s = negV (ln s t)) {cs ds : List Cl} (hc : ClInv (lnOf ln l) cs (prs l.length)) (hd : ClInv (lnOf ln m) ds (prs m.length)) : cs.length ≤ ds.length := by
 have := nodup_le (xs := cs.map fun c => nrm c.1) (ys := ds.map fun c => nrm c.1) (by
  rw [List.nodup_iff_pairwise_ne, List.pairwise_iff_getElem]
  intro i j hi hj hij e
  rw [List.length_map] at hi hj
  rw [List.getElem_map, List.getElem_map] at e
  have := hc.far (List.getElem?_eq_getElem hi) (List.getElem?_eq_getElem hj) (Nat.ne_of_lt hij)
  rw [nrm_to e] at this
  cases this) (fun x hx => by
  obtain ⟨c, hcm, rfl⟩ := List.mem_map.1 hx
  obtain ⟨j, d, hj, hpm, _⟩ := cls_match h8 hp ho hc hd hcm
  exact List.mem_map.2 ⟨d, List.mem_of_getElem? hj, nrm_of hpm⟩)
 simpa using this
theorem cls_same {l m : List α} (h8 : l.length < 9) (hp : l.Perm m) (ho : ∀ s ∈ l, ∀ t ∈ l, ln t s = negV (ln s t)) {cs ds : List Cl} (hc : ClInv (lnOf ln l) cs (prs l.length)) (hd : ClInv (lnOf ln m) ds (prs m.length)) : cs.length = ds.length :=
 Nat.le_antisymm (cls_le h8 hp ho hc hd) (cls_le (by rw [← hp.length_eq]; exact h8) hp.symm (fun s hs t ht => ho s (hp.mem_iff.2 hs) t (hp.mem_iff.2 ht)) hd hc)
end
def lnS (A B : Int) (s t : St) : V6 := subV (plV A B t) (plV A B s)
theorem plE_len {A B : Int} {l : List St} (h : plE A B l = 0) : l.length < 9 := by
 have := (stsE_ok (plE_ok h).2.1).1
 omega
theorem lnS_opp {A B : Int} {l : List St} (h : plE A B l = 0) : ∀ s ∈ l, ∀ t ∈ l, lnS A B t s = negV (lnS A B s t) := fun s hs t ht => subV_swap (line_ok h hs ht)
theorem clsK_inv {A B : Int} {l : List St} (h : plE A B l = 0) : ∀ k, k ≤ (prs l.length).length → ClInv (lnOf (lnS A B) l) (clsK (pls A B l) l.length k) ((prs l.length).take k)
 | 0, _ => by rw [clsK_zero, List.take_zero]; exact ClInv.nil _
 | k + 1, hk => by
  obtain ⟨p, hp⟩ := get_some (show k < (prs l.length).length by omega)
  obtain ⟨s, t, hs, ht, ms, mt, e⟩ := lnOf_at (ln := lnS A B) (plE_len h) (List.mem_of_getElem? hp)
  rw [clsK_step (i := p.1) (j := p.2) hp (pls_get hs) (pls_get ht), prs_take hp]
  have h1 := (clsK_inv h k (by omega)).put p
  rw [e] at h1
  have e2 : subV (plV A B s) (plV A B t) = negV (lnS A B s t) := lnS_opp h s ms t mt
  show ClInv _ (putC p (lnS A B s t) (subV (plV A B s) (plV A B t)) _) _
  rw [e2]; exact h1
theorem clsL_inv {A B : Int} {l : List St} (h : plE A B l = 0) : ClInv (lnOf (lnS A B) l) (clsL A B l) (prs l.length) := by
 have := clsK_inv h (prs l.length).length (Nat.le_refl _)
 rwa [List.take_length] at this
def prsO (n : Nat) : Bool := decide ((prs n).length = n * (n - 1) / 2) && (prs n).all fun q => (prs n).count q == 1
theorem prsO_all : (List.range 9).all prsO = true := by decide +kernel
theorem prs_one {n : Nat} (h : n < 9) : (prs n).length = n * (n - 1) / 2 ∧ ∀ q ∈ prs n, (prs n).count q = 1 := by
 have := List.all_eq_true.1 prsO_all n (List.mem_range.2 h)
 unfold prsO at this
 rw [Bool.and_eq_true, decide_eq_true_eq, List.all_eq_true] at this
 exact ⟨this.1, fun q hq => by simpa using this.2 q hq⟩
theorem ord_perm {l : List St} {q : List Int} (h : ordB q l.length = true) : l.Perm (ordL l q) := by
 have hl : q.length = l.length := by
  unfold ordB at h
  rw [Bool.and_eq_true, decide_eq_true_eq] at h
  exact h.1
 have ok : ∀ k, k < q.length → okO q l.length k = true := fun k hk => by
  unfold ordB at h
  rw [Bool.and_eq_true, List.all_eq_true] at h
  exact h.2 k (List.mem_range.2 hk)
 have hn : (q.map Int.toNat).Nodup := by
  rw [List.nodup_iff_pairwise_ne, List.pairwise_iff_getElem]
  intro i j hi hj hij e
  rw [List.length_map] at hi hj
  rw [List.getElem_map, List.getElem_map] at e
  have h1 := ok j hj
  unfold okO at h1
  rw [List.getElem?_eq_getElem hj] at h1
  simp only [Bool.and_eq_true, decide_eq_true_eq, Bool.not_eq_true'] at h1
  have h0 := (ordB_at h (List.getElem?_eq_getElem hi)).2.1
  have e2 : q[i] = q[j] := by omega
  have : q[j] ∈ q.take j := by
   rw [← e2]
   exact List.mem_take_iff_getElem.2 ⟨i, by omega, rfl⟩
  rw [List.contains_iff_mem.2 this] at h1
  exact absurd h1.2.2 (by simp)
 have hp := nodup_perm (ys := List.range l.length) hn (fun x hx => by
  obtain ⟨y, hy, rfl⟩ := List.mem_map.1 hx
  obtain ⟨k, hk⟩ := List.mem_iff_getElem?.1 hy
  have := ordB_at h hk
  exact List.mem_range.2 (by omega)) (by simp [hl])
 have h2 := (hp.map (fun i => l.getD i zS)).symm
 rw [list_range] at h2
 unfold ordL
 rw [List.map_map] at h2
 exact h2
theorem plE_of {A B : Int} {l : List St} (h1 : errG A B = 0) (h2 : stsE l = 0) (h3 : dupB (pls A B l) = false) : plE A B l = 0 := by
 unfold plE
 rw [if_neg (by omega), if_neg (by omega), h3]; rfl
theorem dup_pair {rs : List (St × V6)} : dupB rs = false ↔ rs.Pairwise (fun a b => dupP a b = false) := by
 rw [List.pairwise_iff_getElem]
 constructor
 ·intro h i j hi hj hij
  rw [Bool.eq_false_iff]
  intro hd
  have := dupB_iff.2 ⟨i, j, _, _, hij, List.getElem?_eq_getElem hi, List.getElem?_eq_getElem hj, hd⟩
  rw [h] at this; cases this
 ·intro h
  rw [Bool.eq_false_iff]
  intro hd
  obtain ⟨i, j, a, b, hij, ha, hb, hd⟩ := dupB_iff.1 hd
  obtain ⟨hi, rfl⟩ := List.getElem?_eq_some_iff.1 ha
  obtain ⟨hj, rfl⟩ := List.getElem?_eq_some_iff.1 hb
  rw [h i j hi hj hij] at hd; cases hd
theorem stsE_of {l : List St} (h8 : l.length ≤ 8) (hv : ∀ x ∈ l, valS x = true) : stsE l = 0 := by
 unfold stsE
 rw [if_neg (by omega), if_pos (List.all_eq_true.2 hv)]
theorem plE_perm {A B : Int} {l m : List St} (h : plE A B l = 0) (hp : l.Perm m) : plE A B m = 0 := by
 obtain ⟨h1, h2, h3⟩ := plE_ok h
 obtain ⟨h4, h5⟩ := stsE_ok h2
 refine plE_of h1 (stsE_of (by rw [← hp.length_eq]; exact h4) fun x hx => h5 x (hp.mem_iff.2 hx)) ?_
 rw [dup_pair] at h3 ⊢
 refine (List.Perm.pairwise_iff (fun {x y} hxy => by rw [dupP_comm]; exact hxy) ?_).1 h3
 exact hp.map _
end Go.Proofs.YtfangplfbbgphaaGreatDoor
namespace Go.Proofs
open Go.Shelf
def Tryz.lays169_ren : Go.Shelf.Ren := ⟨fun | 169 => 53 | n => n, fun | 70 => 107 | 9 => 9 | 0 => 0 | 72 => 110 | 37 => 108 | 127 => 140 | 3 => 3 | 5 => 5 | n => n, fun | n => n⟩
theorem Tryz.lays169 : Go.Proofs.Lays.n169 Tryz.prog Tryz.lays169_ren := {
 mixed := by kernel_rfl
 f169 := Tryz.func53.trans (congrArg some (by kernel_rfl))
 t0 := Tryz.underlying0
 a0 := Tryz.isAgg0
 z0 := Tryz.sizeOf0
 v0 := Tryz.zeroValue0
 t3 := Tryz.underlying3
 a3 := Tryz.isAgg3
 z3 := Tryz.sizeOf3
 v3 := Tryz.zeroValue3
 t9 := Tryz.underlying9
 a9 := Tryz.isAgg9
 z9 := Tryz.sizeOf9
 v9 := Tryz.zeroValue9
 t37 := Tryz.underlying108
 a37 := Tryz.isAgg108
 z37 := Tryz.sizeOf108
 v37 := Tryz.zeroValue108
 t70 := Tryz.underlying107
 a70 := Tryz.isAgg107
 z70 := Tryz.sizeOf107
 v70 := Tryz.zeroValue107
 t72 := Tryz.underlying110
 a72 := Tryz.isAgg110
 z72 := Tryz.sizeOf110
 v72 := Tryz.zeroValue110
 t127 := Tryz.underlying140
 a127 := Tryz.isAgg140
 z127 := Tryz.sizeOf140
 v127 := Tryz.zeroValue140 }
theorem Tryz.Builder_Extra_169 : Builder.Extra Tryz.prog Tryz.lays169_ren := {
 sizeBuilder := by kernel_rfl
 liesBuilder := by kernel_rfl
 t5 := Tryz.underlying5
 a5 := Tryz.isAgg5
 z5 := Tryz.sizeOf5
 v5 := Tryz.zeroValue5
 infoByte := by kernel_rfl
 cellsByte := by kernel_rfl
 sizeByte := by kernel_rfl
 neB5 := by decide }
open Go.RowKit in
theorem Tryz.Builder_String_any (B b : Nat) (l : List UInt8) (w : World) (h : Lib.IsBuilder 110 5 B b (Lib.byteCells l) w) (hBw : B ≤ w.heap.size) :
  Calls Tryz.prog 53 #[.pointer (some ⟨b, 0, none⟩)] w fun e w' => e = .returned (.string ⟨l.toArray⟩) ∧ Below B w w' := Any.Builder_String_any Tryz.lays169 Tryz.Builder_Extra_169 B b l w h hBw
def Tryz.laysM173_ren : Go.Shelf.Ren := ⟨fun | 173 => 76 | 246 => 111 | 283 => 128 | 284 => 129 | 285 => 130 | 286 => 131 | 129 => 138 | 317 => 139 | 318 => 140 | 319 => 141 | 320 => 142 | 337 => 150 | 338 => 151 | n => n, fun | 2 => 2 | 3 => 3 | 9 => 9 | 4 => 4 | 171 => 188 | 0 => 0 | 53 => 150 | 37 => 108 | 5 => 5 | 173 => 190 | 212 => 196 | 51 => 197 | 20 => 20 | 213 => 198 | 46 => 183 | 232 => 214 | 233 => 215 | n => n, fun | 17 => 3 | 18 => 6 | 19 => 7 | n => n⟩
theorem Tryz.laysM173 : Go.Proofs.LaysM.n173 Tryz.prog Tryz.laysM173_ren := {
 mixed := by kernel_rfl
 f129 := Tryz.func138.trans (congrArg some (by kernel_rfl))
 f173 := Tryz.func76.trans (congrArg some (by kernel_rfl))
 f246 := Tryz.func111.trans (congrArg some (by kernel_rfl))
 f283 := Tryz.func128.trans (congrArg some (by kernel_rfl))
 f284 := Tryz.func129.trans (congrArg some (by kernel_rfl))
 f285 := Tryz.func130.trans (congrArg some (by kernel_rfl))
 f286 := Tryz.func131.trans (congrArg some (by kernel_rfl))
 f317 := Tryz.func139.trans (congrArg some (by kernel_rfl))
 f318 := Tryz.func140.trans (congrArg some (by kernel_rfl))
 f319 := Tryz.func141.trans (congrArg some (by kernel_rfl))
 f320 := Tryz.func142.trans (congrArg some (by kernel_rfl))
 f337 := Tryz.func150.trans (congrArg some (by kernel_rfl))
 f338 := Tryz.func151.trans (congrArg some (by kernel_rfl))
 t0 := Tryz.underlying0
 a0 := Tryz.isAgg0
 z0 := Tryz.sizeOf0
 v0 := Tryz.zeroValue0
 t2 := Tryz.underlying2
 a2 := Tryz.isAgg2
 z2 := Tryz.sizeOf2
 v2 := Tryz.zeroValue2
 t3 := Tryz.underlying3
 a3 := Tryz.isAgg3
 z3 := Tryz.sizeOf3
 v3 := Tryz.zeroValue3
 t4 := Tryz.underlying4
 a4 := Tryz.isAgg4
 z4 := Tryz.sizeOf4
 v4 := Tryz.zeroValue4
 t5 := Tryz.underlying5
 a5 := Tryz.isAgg5
 z5 := Tryz.sizeOf5
 v5 := Tryz.zeroValue5
 t9 := Tryz.underlying9
 a9 := Tryz.isAgg9
 z9 := Tryz.sizeOf9
 v9 := Tryz.zeroValue9
 t20 := Tryz.underlying20
 a20 := Tryz.isAgg20
 z20 := Tryz.sizeOf20
 v20 := Tryz.zeroValue20
 t37 := Tryz.underlying108
 a37 := Tryz.isAgg108
 z37 := Tryz.sizeOf108
 v37 := Tryz.zeroValue108
 t46 := Tryz.underlying183
 a46 := Tryz.isAgg183
 z46 := Tryz.sizeOf183
 v46 := Tryz.zeroValue183
 t51 := Tryz.underlying197
 a51 := Tryz.isAgg197
 z51 := Tryz.sizeOf197
 v51 := Tryz.zeroValue197
 t53 := Tryz.underlying150
 a53 := Tryz.isAgg150
 z53 := Tryz.sizeOf150
 v53 := Tryz.zeroValue150
 t171 := Tryz.underlying188
 a171 := Tryz.isAgg188
 z171 := Tryz.sizeOf188
 v171 := Tryz.zeroValue188
 t173 := Tryz.underlying190
 a173 := Tryz.isAgg190
 z173 := Tryz.sizeOf190
 v173 := Tryz.zeroValue190
 t212 := Tryz.underlying196
 a212 := Tryz.isAgg196
 z212 := Tryz.sizeOf196
 v212 := Tryz.zeroValue196
 t213 := Tryz.underlying198
 a213 := Tryz.isAgg198
 z213 := Tryz.sizeOf198
 t232 := Tryz.underlying214
 a232 := Tryz.isAgg214
 z232 := Tryz.sizeOf214
 v232 := Tryz.zeroValue214
 t233 := Tryz.underlying215
 a233 := Tryz.isAgg215
 z233 := Tryz.sizeOf215
 v233 := Tryz.zeroValue215
 g17 := by kernel_rfl
 g18 := by kernel_rfl
 g19 := by kernel_rfl
 i0 := by kernel_rfl
 i2 := by kernel_rfl
 i3 := by kernel_rfl
 i4 := by kernel_rfl
 i5 := by kernel_rfl
 i9 := by kernel_rfl
 i20 := by kernel_rfl
 i37 := by kernel_rfl
 i46 := by kernel_rfl
 i51 := by kernel_rfl
 i53 := by kernel_rfl
 i171 := by kernel_rfl
 i173 := by kernel_rfl
 i212 := by kernel_rfl
 i232 := by kernel_rfl
 i233 := by kernel_rfl
 m17 := by kernel_rfl
 m18 := by kernel_rfl
 m19 := by kernel_rfl }
open Go.RowKit Go.Sort Go.Lib in
theorem Tryz.strconv_FormatInt_10 (n : Int) (h0 : -9223372036854775808 ≤ n) (h1 : n ≤ 9223372036854775807) (w : World) (htab : Lib.TabIs Tryz.prog w "internal/strconv.uint64pow10" .u64 Lib.pow10Tab) :
  Calls Tryz.prog 76 #[.int .i64 n, .int .i64 10] w fun e w' => e = .returned (.string ⟨(Lib.itoa n).toArray⟩) ∧ ∃ k os, w' = grow (w.drewN k) os := Any.strconv_FormatInt_10 Tryz.laysM173 n h0 h1 w htab
def Tryz.laysC174_ren : Go.Shelf.Ren := ⟨fun | 174 => 117 | 247 => 136 | 245 => 137 | 287 => 145 | 279 => 146 | 280 => 147 | 281 => 148 | 282 => 149 | 321 => 152 | 322 => 153 | 316 => 118 | 171 => 155 | 205 => 154 | 243 => 156 | 246 => 111 | 283 => 128 | 284 => 129 | 285 => 130 | 286 => 131 | 129 => 138 | 317 => 139 | 318 => 140 | 319 => 141 | 320 => 142 | 337 => 150 | 338 => 151 | n => n, fun | 9 => 9 | 3 => 3 | 2 => 2 | 75 => 113 | 85 => 175 | 4 => 4 | 167 => 203 | 5 => 5 | 53 => 150 | 175 => 204 | 46 => 183 | 168 => 206 | 37 => 108 | 0 => 0 | 210 => 212 | 21 => 21 | 127 => 140 | 145 => 218 | 143 => 216 | 171 => 188 | 173 => 190 | 212 => 196 | 51 => 197 | 20 => 20 | 213 => 198 | 232 => 214 | 233 => 215 | 80 => 116 | n => n, fun | 15 => 4 | 16 => 5 | 17 => 3 | 18 => 6 | 19 => 7 | n => n⟩
theorem Tryz.laysC174 : Go.Proofs.LaysC.n174 Tryz.prog Tryz.laysC174_ren := {
 mixed := by kernel_rfl
 f129 := Tryz.func138.trans (congrArg some (by kernel_rfl))
 f171 := Tryz.func155.trans (congrArg some (by kernel_rfl))
 f174 := Tryz.func117.trans (congrArg some (by kernel_rfl))
 f205 := Tryz.func154.trans (congrArg some (by kernel_rfl))
 f243 := Tryz.func156.trans (congrArg some (by kernel_rfl))
 f245 := Tryz.func137.trans (congrArg some (by kernel_rfl))
 f246 := Tryz.func111.trans (congrArg some (by kernel_rfl))
 f247 := Tryz.func136.trans (congrArg some (by kernel_rfl))
 f279 := Tryz.func146.trans (congrArg some (by kernel_rfl))
 f280 := Tryz.func147.trans (congrArg some (by kernel_rfl))
 f281 := Tryz.func148.trans (congrArg some (by kernel_rfl))
 f282 := Tryz.func149.trans (congrArg some (by kernel_rfl))
 f283 := Tryz.func128.trans (congrArg some (by kernel_rfl))
 f284 := Tryz.func129.trans (congrArg some (by kernel_rfl))
 f285 := Tryz.func130.trans (congrArg some (by kernel_rfl))
 f286 := Tryz.func131.trans (congrArg some (by kernel_rfl))
 f287 := Tryz.func145.trans (congrArg some (by kernel_rfl))
 f316 := Tryz.func118.trans (congrArg some (by kernel_rfl))
 f317 := Tryz.func139.trans (congrArg some (by kernel_rfl))
 f318 := Tryz.func140.trans (congrArg some (by kernel_rfl))
 f319 := Tryz.func141.trans (congrArg some (by kernel_rfl))
 f320 := Tryz.func142.trans (congrArg some (by kernel_rfl))
 f321 := Tryz.func152.trans (congrArg some (by kernel_rfl))
 f322 := Tryz.func153.trans (congrArg some (by kernel_rfl))
 f337 := Tryz.func150.trans (congrArg some (by kernel_rfl))
 f338 := Tryz.func151.trans (congrArg some (by kernel_rfl))
 t0 := Tryz.underlying0
 a0 := Tryz.isAgg0
 z0 := Tryz.sizeOf0
 v0 := Tryz.zeroValue0
 t2 := Tryz.underlying2
 a2 := Tryz.isAgg2
 z2 := Tryz.sizeOf2
 v2 := Tryz.zeroValue2
 t3 := Tryz.underlying3
 a3 := Tryz.isAgg3
 z3 := Tryz.sizeOf3
 v3 := Tryz.zeroValue3
 t4 := Tryz.underlying4
 a4 := Tryz.isAgg4
 z4 := Tryz.sizeOf4
 v4 := Tryz.zeroValue4
 t5 := Tryz.underlying5
 a5 := Tryz.isAgg5
 z5 := Tryz.sizeOf5
 v5 := Tryz.zeroValue5
 t9 := Tryz.underlying9
 a9 := Tryz.isAgg9
 z9 := Tryz.sizeOf9
 v9 := Tryz.zeroValue9
 t20 := Tryz.underlying20
 a20 := Tryz.isAgg20
 z20 := Tryz.sizeOf20
 v20 := Tryz.zeroValue20
 t21 := Tryz.underlying21
 a21 := Tryz.isAgg21
 z21 := Tryz.sizeOf21
 v21 := Tryz.zeroValue21
 t37 := Tryz.underlying108
 a37 := Tryz.isAgg108
 z37 := Tryz.sizeOf108
 v37 := Tryz.zeroValue108
 t46 := Tryz.underlying183
 a46 := Tryz.isAgg183
 z46 := Tryz.sizeOf183
 v46 := Tryz.zeroValue183
 t51 := Tryz.underlying197
 a51 := Tryz.isAgg197
 z51 := Tryz.sizeOf197
 v51 := Tryz.zeroValue197
 t53 := Tryz.underlying150
 a53 := Tryz.isAgg150
 z53 := Tryz.sizeOf150
 v53 := Tryz.zeroValue150
 t75 := Tryz.underlying113
 a75 := Tryz.isAgg113
 z75 := Tryz.sizeOf113
 v75 := Tryz.zeroValue113
 t85 := Tryz.underlying175
 a85 := Tryz.isAgg175
 z85 := Tryz.sizeOf175
 v85 := Tryz.zeroValue175
 t127 := Tryz.underlying140
 a127 := Tryz.isAgg140
 z127 := Tryz.sizeOf140
 v127 := Tryz.zeroValue140
 t143 := Tryz.underlying216
 a143 := Tryz.isAgg216
 z143 := Tryz.sizeOf216
 v143 := Tryz.zeroValue216
 t145 := Tryz.underlying218
 a145 := Tryz.isAgg218
 z145 := Tryz.sizeOf218
 v145 := Tryz.zeroValue218
 t167 := Tryz.underlying203
 a167 := Tryz.isAgg203
 z167 := Tryz.sizeOf203
 v167 := Tryz.zeroValue203
 t168 := Tryz.underlying206
 a168 := Tryz.isAgg206
 z168 := Tryz.sizeOf206
 v168 := Tryz.zeroValue206
 t171 := Tryz.underlying188
 a171 := Tryz.isAgg188
 z171 := Tryz.sizeOf188
 v171 := Tryz.zeroValue188
 t173 := Tryz.underlying190
 a173 := Tryz.isAgg190
 z173 := Tryz.sizeOf190
 v173 := Tryz.zeroValue190
 t175 := Tryz.underlying204
 a175 := Tryz.isAgg204
 z175 := Tryz.sizeOf204
 v175 := Tryz.zeroValue204
 t210 := Tryz.underlying212
 a210 := Tryz.isAgg212
 z210 := Tryz.sizeOf212
 v210 := Tryz.zeroValue212
 t212 := Tryz.underlying196
 a212 := Tryz.isAgg196
 z212 := Tryz.sizeOf196
 v212 := Tryz.zeroValue196
 t213 := Tryz.underlying198
 a213 := Tryz.isAgg198
 z213 := Tryz.sizeOf198
 t232 := Tryz.underlying214
 a232 := Tryz.isAgg214
 z232 := Tryz.sizeOf214
 v232 := Tryz.zeroValue214
 t233 := Tryz.underlying215
 a233 := Tryz.isAgg215
 z233 := Tryz.sizeOf215
 v233 := Tryz.zeroValue215
 g15 := by kernel_rfl
 g16 := by kernel_rfl
 g17 := by kernel_rfl
 g18 := by kernel_rfl
 g19 := by kernel_rfl
 t80 := Tryz.underlying116
 a80 := Tryz.isAgg116
 z80 := Tryz.sizeOf116
 v80 := Tryz.zeroValue116
 i0 := by kernel_rfl
 i2 := by kernel_rfl
 i3 := by kernel_rfl
 i4 := by kernel_rfl
 i5 := by kernel_rfl
 i9 := by kernel_rfl
 i20 := by kernel_rfl
 i21 := by kernel_rfl
 i37 := by kernel_rfl
 i46 := by kernel_rfl
 i51 := by kernel_rfl
 i53 := by kernel_rfl
 i75 := by kernel_rfl
 i80 := by kernel_rfl
 i85 := by kernel_rfl
 i127 := by kernel_rfl
 i143 := by kernel_rfl
 i145 := by kernel_rfl
 i167 := by kernel_rfl
 i168 := by kernel_rfl
 i171 := by kernel_rfl
 i173 := by kernel_rfl
 i175 := by kernel_rfl
 i210 := by kernel_rfl
 i212 := by kernel_rfl
 i232 := by kernel_rfl
 i233 := by kernel_rfl
 m15 := by kernel_rfl
 m16 := by kernel_rfl
 m17 := by kernel_rfl
 m18 := by kernel_rfl
 m19 := by kernel_rfl
 c0 := by kernel_rfl
 c2 := by kernel_rfl
 c3 := by kernel_rfl
 c4 := by kernel_rfl
 c5 := by kernel_rfl
 c9 := by kernel_rfl
 c20 := by kernel_rfl
 c21 := by kernel_rfl
 c37 := by kernel_rfl
 c46 := by kernel_rfl
 c51 := by kernel_rfl
 c53 := by kernel_rfl
 c75 := by kernel_rfl
 c80 := by kernel_rfl
 c85 := by kernel_rfl
 c127 := by kernel_rfl
 c143 := by kernel_rfl
 c145 := by kernel_rfl
 c167 := by kernel_rfl
 c168 := by kernel_rfl
 c171 := by kernel_rfl
 c173 := by kernel_rfl
 c175 := by kernel_rfl
 c210 := by kernel_rfl
 c212 := by kernel_rfl
 c213 := by kernel_rfl
 c232 := by kernel_rfl
 c233 := by kernel_rfl }
open Go.RowKit in
theorem Tryz.strconv_ParseInt_10_at64_ok (s : ByteArray) (hmax : s.size ≤ 9223372036854775806) (v : Int) (h : Lib.parseIntB 64 s.data.toList = .ok v) (w : World) :
  Calls Tryz.prog 117 #[.string s, .int .i64 10, .int .i64 64] w fun e w' => e = .returned (.tuple #[.int .i64 v, .nilIface]) ∧ (w' = w ∨ ∃ t, w' = Lib.bytesWorld w 5 t) := Any.strconv_ParseInt_10_at64_ok Tryz.laysC174 s hmax v h w
open Go.RowKit in
theorem Tryz.strconv_ParseInt_10_at64_syntax_var (s : ByteArray) (hlim : s.size ≤ 281474976710656) (h : (∀ v, Lib.parseIntB 64 s.data.toList ≠ .ok v) ∧ Lib.parseIntB 64 s.data.toList ≠ .range) (tp : TypeId) (p : Value) (w : World) (hvar : w.var? Tryz.prog "strconv.ErrSyntax" = some #[.iface tp p]) :
  Calls Tryz.prog 117 #[.string s, .int .i64 10, .int .i64 64] w fun e w' => ∃ N, e = .returned (.tuple #[.int .i64 (0), .iface 206 (.pointer (some ⟨N, 0, none⟩))]) ∧ w.heap.size ≤ N ∧ w'.heap[N]? = some (.cells #[.string ⟨#[80, 97, 114, 115, 101, 73, 110, 116]⟩, .string s, .iface tp p] 212 (0, 0)) ∧ Below w.heap.size w w' := Any.strconv_ParseInt_10_at64_syntax_var Tryz.laysC174 s hlim (by cases k : Lib.parseIntB 64 s.data.toList with | ok v => exact absurd k (h.1 v) | range => exact absurd k h.2 | _ => rfl) tp p w hvar
open Go.RowKit in
theorem Tryz.strconv_ParseInt_10_at64_range_var (s : ByteArray) (hlim : s.size ≤ 281474976710656) (h : Lib.parseIntB 64 s.data.toList = .range) (tp : TypeId) (p : Value) (w : World) (hvar : w.var? Tryz.prog "strconv.ErrRange" = some #[.iface tp p]) :
  Calls Tryz.prog 117 #[.string s, .int .i64 10, .int .i64 64] w fun e w' => ∃ N, e = .returned (.tuple #[.int .i64 (Lib.intSat 64 s.data.toList), .iface 206 (.pointer (some ⟨N, 0, none⟩))]) ∧ w.heap.size ≤ N ∧ w'.heap[N]? = some (.cells #[.string ⟨#[80, 97, 114, 115, 101, 73, 110, 116]⟩, .string s, .iface tp p] 212 (0, 0)) ∧ Below w.heap.size w w' := Any.strconv_ParseInt_10_at64_range_var Tryz.laysC174 s hlim h tp p w hvar
def Tryz.lays145_ren : Go.Shelf.Ren := ⟨fun | 145 => 56 | 220 => 82 | 219 => 116 | 217 => 132 | 225 => 133 | 224 => 134 | 267 => 135 | 266 => 143 | 314 => 144 | n => n, fun | 9 => 9 | 4 => 4 | 59 => 119 | 3 => 3 | 5 => 5 | 46 => 183 | 146 => 201 | 51 => 197 | n => n, fun | 1 => 2 | n => n⟩
theorem Tryz.lays145 : Go.Proofs.Lays.n145 Tryz.prog Tryz.lays145_ren := {
 mixed := by kernel_rfl
 f145 := Tryz.func56.trans (congrArg some (by kernel_rfl))
 f217 := Tryz.func132.trans (congrArg some (by kernel_rfl))
 f219 := Tryz.func116.trans (congrArg some (by kernel_rfl))
 f220 := Tryz.func82.trans (congrArg some (by kernel_rfl))
 f224 := Tryz.func134.trans (congrArg some (by kernel_rfl))
 f225 := Tryz.func133.trans (congrArg some (by kernel_rfl))
 f266 := Tryz.func143.trans (congrArg some (by kernel_rfl))
 f267 := Tryz.func135.trans (congrArg some (by kernel_rfl))
 f314 := Tryz.func144.trans (congrArg some (by kernel_rfl))
 t3 := Tryz.underlying3
 a3 := Tryz.isAgg3
 z3 := Tryz.sizeOf3
 v3 := Tryz.zeroValue3
 t4 := Tryz.underlying4
 a4 := Tryz.isAgg4
 z4 := Tryz.sizeOf4
 v4 := Tryz.zeroValue4
 t5 := Tryz.underlying5
 a5 := Tryz.isAgg5
 z5 := Tryz.sizeOf5
 v5 := Tryz.zeroValue5
 t9 := Tryz.underlying9
 a9 := Tryz.isAgg9
 z9 := Tryz.sizeOf9
 v9 := Tryz.zeroValue9
 t46 := Tryz.underlying183
 a46 := Tryz.isAgg183
 z46 := Tryz.sizeOf183
 v46 := Tryz.zeroValue183
 t51 := Tryz.underlying197
 a51 := Tryz.isAgg197
 z51 := Tryz.sizeOf197
 v51 := Tryz.zeroValue197
 t59 := Tryz.underlying119
 a59 := Tryz.isAgg119
 z59 := Tryz.sizeOf119
 v59 := Tryz.zeroValue119
 t146 := Tryz.underlying201
 a146 := Tryz.isAgg201
 z146 := Tryz.sizeOf201
 v146 := Tryz.zeroValue201
 g1 := by kernel_rfl }
open Go.RowKit Go.Lib in
theorem Tryz.strings_Cut (s sep : ByteArray) (m : Int) (w : World) (hs : s.size < 4294967281) (hm : w.cell? ⟨2, 0, none⟩ = some (.int .i64 m)) :
  Calls Tryz.prog 56 #[.string s, .string sep] w fun e w' => e = .returned (.tuple #[.string ⟨(Lib.cut s.data.toList sep.data.toList).1.toArray⟩, .string ⟨(Lib.cut s.data.toList sep.data.toList).2.1.toArray⟩, .bool (Lib.cut s.data.toList sep.data.toList).2.2]) ∧ ∃ n, w' = w.drewN n := Any.strings_Cut Tryz.lays145 s sep m w hs hm
def Tryz.laysM145_ren : Go.Shelf.Ren := ⟨fun | 145 => 56 | 220 => 82 | 219 => 116 | 217 => 132 | 225 => 133 | 224 => 134 | 267 => 135 | 266 => 143 | 314 => 144 | n => n, fun | 9 => 9 | 4 => 4 | 59 => 119 | 3 => 3 | 5 => 5 | 46 => 183 | 146 => 201 | 51 => 197 | n => n, fun | 1 => 2 | n => n⟩
theorem Tryz.laysM145 : Go.Proofs.LaysM.n145 Tryz.prog Tryz.laysM145_ren := {
 mixed := by kernel_rfl
 f145 := Tryz.func56.trans (congrArg some (by kernel_rfl))
 f217 := Tryz.func132.trans (congrArg some (by kernel_rfl))
 f219 := Tryz.func116.trans (congrArg some (by kernel_rfl))
 f220 := Tryz.func82.trans (congrArg some (by kernel_rfl))
 f224 := Tryz.func134.trans (congrArg some (by kernel_rfl))
 f225 := Tryz.func133.trans (congrArg some (by kernel_rfl))
 f266 := Tryz.func143.trans (congrArg some (by kernel_rfl))
 f267 := Tryz.func135.trans (congrArg some (by kernel_rfl))
 f314 := Tryz.func144.trans (congrArg some (by kernel_rfl))
 t3 := Tryz.underlying3
 a3 := Tryz.isAgg3
 z3 := Tryz.sizeOf3
 v3 := Tryz.zeroValue3
 t4 := Tryz.underlying4
 a4 := Tryz.isAgg4
 z4 := Tryz.sizeOf4
 v4 := Tryz.zeroValue4
 t5 := Tryz.underlying5
 a5 := Tryz.isAgg5
 z5 := Tryz.sizeOf5
 v5 := Tryz.zeroValue5
 t9 := Tryz.underlying9
 a9 := Tryz.isAgg9
 z9 := Tryz.sizeOf9
 v9 := Tryz.zeroValue9
 t46 := Tryz.underlying183
 a46 := Tryz.isAgg183
 z46 := Tryz.sizeOf183
 v46 := Tryz.zeroValue183
 t51 := Tryz.underlying197
 a51 := Tryz.isAgg197
 z51 := Tryz.sizeOf197
 v51 := Tryz.zeroValue197
 t59 := Tryz.underlying119
 a59 := Tryz.isAgg119
 z59 := Tryz.sizeOf119
 v59 := Tryz.zeroValue119
 t146 := Tryz.underlying201
 a146 := Tryz.isAgg201
 z146 := Tryz.sizeOf201
 v146 := Tryz.zeroValue201
 g1 := by kernel_rfl
 i3 := by kernel_rfl
 i4 := by kernel_rfl
 i5 := by kernel_rfl
 i9 := by kernel_rfl
 i46 := by kernel_rfl
 i51 := by kernel_rfl
 i59 := by kernel_rfl
 i146 := by kernel_rfl
 m1 := by kernel_rfl
 s1_3 := fun w h => Go.Proofs.cell_of_shapedOpen_int (zero := #[.int .i64 0]) (t := 3) h (of_decide_eq_true (by kernel_rfl)) (by kernel_rfl) rfl (by kernel_rfl) (by kernel_rfl) Tryz.underlying3 }
end Go.Proofs
namespace Go.Proofs.YtfangplfbbgphaaGreatDoor
open Go Go.RowKit
set_option linter.unusedVariables false
set_option maxRecDepth 100000
theorem sb_size : (Tryz.prog.info? 110).map (·.size) = some 2 := by kernel_rfl
theorem sb_lies : liesAt Tryz.prog Tryz.prog.depth 110 (2 / Tryz.prog.cellsOf 110) 0 110 1 = true := by kernel_rfl
theorem sb_byte : (Tryz.prog.info? 5).map (fun i => (i.zero, i.size, i.bytes)) = some (some (.int .u8 0), 1, 1) := by kernel_rfl
set_option maxHeartbeats 1000000 in
set_option maxRecDepth 100000 in
theorem sb_used (b : Nat) (w : World) (h0 : w.cell? ⟨b, 0, none⟩ = some (.pointer (some ⟨b, 0, none⟩))) :
  Calls Tryz.prog 77 #[.pointer (some ⟨b, 0, none⟩)] w fun e w' => e = .returned (.tuple #[]) ∧ w' = w := by
 obtain ⟨j, hj, _⟩ := Option.map_eq_some_iff.1 sb_size
 go_enter Tryz.func77, Tryz.ntmps77
 go_wp2
 rw [Lib.run_neq_ptr_same w _ Tryz.underlying107 hj]
 go_wp2
 go_end0
 exact ⟨rfl, rfl⟩
set_option maxHeartbeats 1000000 in
set_option maxRecDepth 100000 in
theorem sb_fresh (b : Nat) (w : World) (h0 : w.cell? ⟨b, 0, none⟩ = some (.pointer none)) (hsh : w.shape? b = some (110, 2)) (hfz : w.frozen? ⟨b, 0, none⟩ = false) :
  Calls Tryz.prog 77 #[.pointer (some ⟨b, 0, none⟩)] w fun e w' => e = .returned (.tuple #[]) ∧ w' = w.setCell ⟨b, 0, none⟩ (.pointer (some ⟨b, 0, none⟩)) := by
 obtain ⟨j, hj, hjs⟩ := Option.map_eq_some_iff.1 sb_size
 go_enter Tryz.func77, Tryz.ntmps77
 go_wp2
 rw [Lib.run_to_unsafe w ⟨b, 0, none⟩ Tryz.underlying107 Tryz.underlying171 hj (by rw [hjs]; decide) hsh (Nat.zero_lt_succ 1)]
 simp only [Result.andThen]
 rw [Oper.upon_value]
 go_wp2
 rw [run_callFunc_extern Tryz.func112 (by kernel_rfl) (by kernel_rfl) (by kernel_rfl) (e := Extern.AbiNoEscape.same) (by kernel_rfl)]
 rw [Lib.run_noEscape]
 simp only [Result.andThen]
 rw [Oper.upon_value]
 go_wp2
 rw [Lib.run_from_unsafe w ⟨b, 0, none⟩ Tryz.underlying171 Tryz.underlying107 hj hsh sb_lies]
 simp only [Result.andThen]
 rw [Oper.upon_value]
 go_wp2
 go_end0
 exact ⟨rfl, rfl⟩
abbrev SB (B b : Nat) (bs : List Value) (w : World) : Prop := Lib.IsBuilder 110 5 B b bs w
abbrev SBU (B b : Nat) (bs : List Value) (w : World) : Prop := Lib.BuilderAt 110 5 B b (.pointer (some ⟨b, 0, none⟩)) bs w
theorem sb_check (B b : Nat) (bs : List Value) (w : World) (h : SB B b bs w) :
  Calls Tryz.prog 77 #[.pointer (some ⟨b, 0, none⟩)] w fun e w' => e = .returned (.tuple #[]) ∧ SBU B b bs w' ∧ Below B w w' := by
 rcases h with h | h
 ·refine (sb_fresh b w h.cell0 h.shape h.frozen0).mono ?_
  rintro e w' ⟨rfl, rfl⟩
  exact ⟨rfl, h.used _, (Below.refl B w).setCell (p := ⟨b, 0, none⟩) h.1 _⟩
 ·refine (sb_used b w h.cell0).mono ?_
  rintro e w' ⟨rfl, rfl⟩
  exact ⟨rfl, h, Below.refl B _⟩
set_option maxHeartbeats 1000000 in
set_option maxRecDepth 100000 in
theorem sb_write (B b : Nat) (bs : List Value) (s : ByteArray) (w : World) (h : SB B b bs w) (hlen : bs.length + s.size ≤ 140737488355328) (hBw : B ≤ w.heap.size) :
  Calls Tryz.prog 52 #[.pointer (some ⟨b, 0, none⟩), .string s] w fun e w' => e = .returned (.tuple #[.int .i64 s.size, .nilIface]) ∧ SBU B b (bs ++ Lib.strCells s) w' ∧ Below B w w' := by
 obtain ⟨i0, hi, hz0, hz1, hz2⟩ := info_parts sb_byte
 go_enter Tryz.func52, Tryz.ntmps52
 go_wp2_with fail
 refine (sb_check B b bs _ h).mono ?_
 rintro e w1 ⟨rfl, h1, hb1⟩
 obtain ⟨hB, v, hbk, hown, hne⟩ := h1
 have c0 : w1.cell? ⟨b, 0, none⟩ = some (.pointer (some ⟨b, 0, none⟩)) := by rw [Lib.cell_of_heap hbk]; rfl
 have c1 : w1.cell? ⟨b, 1, none⟩ = some v := by rw [Lib.cell_of_heap hbk]; rfl
 go_wp2_with (at_builtin; refine Lib.wpList_append_own_string _ rfl _ _ 108 9 rfl B 5 i0 Tryz.underlying108 Tryz.underlying9 hi hz0 hz1 hz2 _ _ _ rfl hown s rfl ?c3 ?c4 ?c5 ?_)
 case c3 => unfold maxLen; omega
 case c4 => omega
 case c5 => have := hb1.size; omega
 intro v' w2 hown' hgrow _
 have hlt : b < w1.heap.size := by
  rcases Nat.lt_or_ge b w1.heap.size with h' | h'
  ·exact h'
  ·simp [Array.getElem?_eq_none h'] at hbk
 have hb2 : w2.heap[b]? = some (.cells #[.pointer (some ⟨b, 0, none⟩), v] 110 (0, 0)) := by
  rw [hgrow.block b hlt (fun e => hne e.symm)]
  exact hbk
 have d0 : w2.cell? ⟨b, 0, none⟩ = some (.pointer (some ⟨b, 0, none⟩)) := by rw [Lib.cell_of_heap hb2]; rfl
 have d1 : w2.cell? ⟨b, 1, none⟩ = some v := by rw [Lib.cell_of_heap hb2]; rfl
 have f1 : w2.frozen? ⟨b, 1, none⟩ = false := Lib.frozen_of_heap hb2 1
 obtain ⟨ao, n', cap, rfl⟩ : ∃ ao n' cap, v' = .slice ao n' cap := by
  rcases hown'.2 with ⟨hv, _⟩ | ⟨g, cap, cur, hv, _⟩
  ·exact ⟨_, _, _, hv⟩
  ·exact ⟨_, _, _, hv⟩
 go_wp2
 go_ret2
 refine ⟨rfl, ?_, ?_⟩
 ·exact Lib.BuilderAt.put (T := 110) (e := 5) hB hb2 (bs' := bs ++ Lib.strCells s) (by simpa [Lib.strCells_length] using hown') (by decide)
 ·exact (hb1.grown hgrow (by have := hb1.size; omega) (fun k hk => (hown.lt k hk).1)).setCell (p := ⟨b, 1, none⟩) hB _
theorem SB.new (w : World) : SB w.heap.size w.heap.size [] (w.alloc (.cells #[.pointer none, .slice none 0 0] 110)) :=
 .inl ⟨Nat.le_refl _, _, blk_new w _, World.ownsRow_nil _ _ _ _, by simp [Value.ownBlock]⟩
end Go.Proofs.YtfangplfbbgphaaGreatDoor
namespace Go.Proofs.YtfangplfbbgphaaGreatDoor
open Go
set_option linter.unusedVariables false
theorem dec_small {u : Nat} (h : u < 10) : Lib.decDigits u = [UInt8.ofNat (48 + u)] := by rw [Lib.decDigits, dif_pos h]
theorem dec_big {u : Nat} (h : ¬ u < 10) : Lib.decDigits u = Lib.decDigits (u / 10) ++ [UInt8.ofNat (48 + u % 10)] := by rw [Lib.decDigits, dif_neg h]
theorem dig_nat {k : Nat} (h : k < 10) : (UInt8.ofNat (48 + k)).toNat = 48 + k := by
 rw [UInt8.toNat_ofNat']; omega
theorem dec_digit : ∀ (n u : Nat), u < n → ∀ c ∈ Lib.decDigits u, 48 ≤ c.toNat ∧ c.toNat ≤ 57 := by
 intro n
 induction n with
 | zero => intro u h; omega
 | succ n ih =>
  intro u h c hc
  by_cases hu : u < 10
  ·rw [dec_small hu] at hc
   simp only [List.mem_singleton] at hc
   subst hc
   rw [dig_nat hu]; omega
  ·rw [dec_big hu] at hc
   rcases List.mem_append.1 hc with h1 | h1
   ·exact ih (u / 10) (by omega) c h1
   ·simp only [List.mem_singleton] at h1
    subst h1
    rw [dig_nat (by omega)]; omega
theorem dec_ne (u : Nat) : Lib.decDigits u ≠ [] := by
 by_cases hu : u < 10
 ·rw [dec_small hu]; simp
 ·rw [dec_big hu]; simp
def spell (acc : Nat) (l : List UInt8) : Nat := l.foldl (fun a c => a * 10 + (c.toNat - 48)) acc
theorem spell_cons (acc : Nat) (c : UInt8) (l : List UInt8) : spell acc (c :: l) = spell (acc * 10 + (c.toNat - 48)) l := by unfold spell; rw [List.foldl_cons]
theorem spell_snoc (acc : Nat) (l : List UInt8) (c : UInt8) : spell acc (l ++ [c]) = spell acc l * 10 + (c.toNat - 48) := by unfold spell; rw [List.foldl_append, List.foldl_cons, List.foldl_nil]
theorem spell_ge : ∀ (l : List UInt8) (acc : Nat), acc ≤ spell acc l
 | [], acc => Nat.le_refl _
 | c :: l, acc => by
  rw [spell_cons]
  exact Nat.le_trans (by omega) (spell_ge l (acc * 10 + (c.toNat - 48)))
theorem spell_dec : ∀ (n u : Nat), u < n → spell 0 (Lib.decDigits u) = u := by
 intro n
 induction n with
 | zero => intro u h; omega
 | succ n ih =>
  intro u h
  by_cases hu : u < 10
  ·rw [dec_small hu, show [UInt8.ofNat (48 + u)] = [] ++ [UInt8.ofNat (48 + u)] from rfl, spell_snoc, dig_nat hu]
   simp [spell]
  ·rw [dec_big hu, spell_snoc, ih (u / 10) (by omega), dig_nat (by omega)]
   omega
theorem parseU_spell {M : Nat} (hM : M = 18446744073709551615) : ∀ (l : List UInt8) (acc : Nat), (∀ c ∈ l, 48 ≤ c.toNat ∧ c.toNat ≤ 57) → spell acc l ≤ M → Lib.parseUintM M acc l = .ok (spell acc l)
 | [], acc, _, _ => rfl
 | c :: l, acc, hd, hs => by
  have h1 := hd c (by simp)
  rw [spell_cons] at hs ⊢
  have h2 := spell_ge l (acc * 10 + (c.toNat - 48))
  unfold Lib.parseUintM
  rw [if_pos h1, if_neg (by omega), if_neg (by omega)]
  exact parseU_spell hM l _ (fun x hx => hd x (by simp [hx])) hs
theorem parseI_minus {r : List UInt8} {u : Nat} (h : Lib.parseUintB 64 r = .ok u) (hu : u ≤ 9223372036854775808) : Lib.parseIntB 64 (45 :: r) = .ok (-(u : Int)) := by
 unfold Lib.parseIntB
 have e : (if (45 : UInt8).toNat = 43 ∨ (45 : UInt8).toNat = 45 then r else 45 :: r) = r := if_pos (.inr rfl)
 simp only [e, h]
 have n : (45 : UInt8).toNat = 45 := rfl
 rw [if_neg (fun k => k.1 n), if_neg (fun k => by have := k.2; rw [show (2 : Nat) ^ (64 - 1) = 9223372036854775808 from rfl] at this; omega), if_pos n]
theorem parseI_plain {c : UInt8} {r : List UInt8} {u : Nat} (hc : 48 ≤ c.toNat) (h : Lib.parseUintB 64 (c :: r) = .ok u) (hu : u < 9223372036854775808) : Lib.parseIntB 64 (c :: r) = .ok (u : Int) := by
 unfold Lib.parseIntB
 have e : (if c.toNat = 43 ∨ c.toNat = 45 then r else c :: r) = c :: r := if_neg (by omega)
 simp only [e, h]
 rw [if_neg (fun k => by have := k.2; rw [show (2 : Nat) ^ (64 - 1) = 9223372036854775808 from rfl] at this; omega), if_neg (fun k => by have := k.1; omega), if_neg (by omega)]
theorem parseI_itoa {n : Int} (h1 : -9223372036854775808 ≤ n) (h2 : n ≤ 9223372036854775807) : Lib.parseIntB 64 (Lib.itoa n) = .ok n := by
 have U : ∀ u : Nat, u ≤ 9223372036854775808 → Lib.parseUintB 64 (Lib.decDigits u) = .ok u := fun u hu => by
  unfold Lib.parseUintB
  have hs := spell_dec (u + 1) u (by omega)
  rw [if_neg (dec_ne u), parseU_spell (by decide) _ _ (dec_digit (u + 1) u (by omega)) (by rw [hs]; omega), hs]
 by_cases hn : n < 0
 ·have e : Lib.itoa n = 45 :: Lib.decDigits n.natAbs := by unfold Lib.itoa; rw [if_pos hn]
  rw [e, parseI_minus (U n.natAbs (by omega)) (by omega)]
  congr 1; omega
 ·have e : Lib.itoa n = Lib.decDigits n.toNat := by unfold Lib.itoa; rw [if_neg hn]
  rw [e]
  have u := U n.toNat (by omega)
  have dg := dec_digit (n.toNat + 1) n.toNat (by omega)
  cases hl : Lib.decDigits n.toNat with
  | nil => exact absurd hl (dec_ne _)
  | cons c r =>
   rw [hl] at u dg
   rw [parseI_plain (dg c (by simp)).1 u (by omega)]
   congr 1; omega
theorem itoa_byte {n : Int} : ∀ c ∈ Lib.itoa n, c ≠ 47 := fun c hc e => by
 subst e
 unfold Lib.itoa at hc
 have t : (47 : UInt8).toNat = 47 := rfl
 split at hc
 ·rcases List.mem_cons.1 hc with h | h
  ·cases h
  ·have := dec_digit (n.natAbs + 1) n.natAbs (by omega) _ h; omega
 ·have := dec_digit (n.toNat + 1) n.toNat (by omega) _ hc; omega
def textL (n d : Int) : List UInt8 := if d = 1 then Lib.itoa n else Lib.itoa n ++ 47 :: Lib.itoa d
theorem byte_none : ∀ (l : List UInt8) (c : UInt8), (∀ x ∈ l, x ≠ c) → Lib.indexByte l c = -1
 | [], _, _ => rfl
 | b :: l, c, h => by
  have hb : (b == c) = false := by rw [beq_eq_false_iff_ne]; exact h b (by simp)
  unfold Lib.indexByte
  rw [hb, byte_none l c (fun x hx => h x (by simp [hx]))]
  rfl
theorem byte_at : ∀ (l : List UInt8) (c : UInt8) (r : List UInt8), (∀ x ∈ l, x ≠ c) → Lib.indexByte (l ++ c :: r) c = (l.length : Int)
 | [], c, r, _ => by simp [Lib.indexByte]
 | b :: l, c, r, h => by
  have hb : (b == c) = false := by rw [beq_eq_false_iff_ne]; exact h b (by simp)
  have ih := byte_at l c r (fun x hx => h x (by simp [hx]))
  rw [List.cons_append]
  unfold Lib.indexByte
  rw [hb, ih]
  have : ((l.length : Int) == -1) = false := by rw [beq_eq_false_iff_ne]; omega
  rw [this]
  simp
theorem cut_none {l : List UInt8} (h : ∀ x ∈ l, x ≠ 47) : Lib.cut l [47] = (l, [], false) := by
 unfold Lib.cut
 rw [Lib.index_one, byte_none l 47 h, if_neg (by decide)]
theorem cut_at {l r : List UInt8} (h : ∀ x ∈ l, x ≠ 47) : Lib.cut (l ++ 47 :: r) [47] = (l, r, true) := by
 unfold Lib.cut
 rw [Lib.index_one, byte_at l 47 r h, if_pos (by omega)]
 simp [List.drop_append]
theorem cut_text (n d : Int) : Lib.cut (textL n d) [47] = (Lib.itoa n, if d = 1 then [] else Lib.itoa d, !decide (d = 1)) := by
 unfold textL
 by_cases h : d = 1
 ·rw [if_pos h, if_pos h, cut_none itoa_byte]; simp [h]
 ·rw [if_neg h, if_neg h, cut_at itoa_byte]; simp [h]
theorem text_len {n d : Int} (v : VF n d) : (textL n d).length ≤ 40 := by
 have L : ∀ x : Int, -1000000000000000000 ≤ x → x ≤ 1000000000000000000 → (Lib.itoa x).length ≤ 20 ∧ (0 ≤ x → (Lib.itoa x).length ≤ 19) := by
  intro x h1 h2
  have D : ∀ (k u : Nat), u < 10 ^ (k + 1) → (Lib.decDigits u).length ≤ k + 1 := by
   intro k
   induction k with
   | zero => intro u hu; rw [dec_small (by simpa using hu)]; simp
   | succ k ih =>
    intro u hu
    by_cases h : u < 10
    ·rw [dec_small h]; simp
    ·rw [dec_big h, List.length_append]
     have := ih (u / 10) (by rw [Nat.pow_succ] at hu; omega)
     simp; omega
  unfold Lib.itoa
  split
  ·have := D 18 x.natAbs (by omega)
   simp; omega
  ·have := D 18 x.toNat (by omega)
   omega
 have a := L n v.n1 v.n2
 have b := L d (by have := v.d1; omega) v.d2
 have b2 := b.2 (by have := v.d1; omega)
 unfold textL
 split
 ·omega
 ·simp; omega
def PR (l : List UInt8) (r : Int × Int × Int) : Prop := (r.2.2 = 0 ∧ VF r.1 r.2.1 ∧ textL r.1 r.2.1 = l) ∨ (r = (0, 0, 12) ∧ ∀ n d, VF n d → textL n d ≠ l)
theorem text_inj {n d m k : Int} (v : VF n d) (u : VF m k) (h : textL n d = textL m k) : n = m ∧ d = k := by
 have c := congrArg (fun l => Lib.cut l [47]) h
 simp only [cut_text, Prod.mk.injEq] at c
 obtain ⟨c1, c2, c3⟩ := c
 have vn := parseI_itoa (n := n) (by have := v.n1; omega) (by have := v.n2; omega)
 have um := parseI_itoa (n := m) (by have := u.n1; omega) (by have := u.n2; omega)
 have vd := parseI_itoa (n := d) (by have := v.d1; omega) (by have := v.d2; omega)
 have uk := parseI_itoa (n := k) (by have := u.d1; omega) (by have := u.d2; omega)
 rw [c1, um] at vn
 refine ⟨by cases vn; rfl, ?_⟩
 by_cases h1 : d = 1
 ·by_cases h2 : k = 1
  ·omega
  ·simp [h1, h2] at c3
 ·by_cases h2 : k = 1
  ·simp [h1, h2] at c3
  ·rw [if_neg h1, if_neg h2] at c2
   rw [c2, uk] at vd
   cases vd; rfl
theorem PR.unique {l : List UInt8} {r r' : Int × Int × Int} (h : PR l r) (h' : PR l r') : r = r' := by
 obtain ⟨a, b, c⟩ := r
 obtain ⟨a', b', c'⟩ := r'
 rcases h with ⟨h1, h2, h3⟩ | ⟨h1, h2⟩
 ·rcases h' with ⟨k1, k2, k3⟩ | ⟨k1, k2⟩
  ·obtain ⟨e1, e2⟩ := text_inj h2 k2 (h3.trans k3.symm)
   simp only at h1 k1 e1 e2
   rw [h1, k1, e1, e2]
  ·exact absurd h3 (k2 _ _ h2)
 ·rcases h' with ⟨k1, k2, k3⟩ | ⟨k1, k2⟩
  ·exact absurd k3 (h2 _ _ k2)
  ·rw [h1, k1]
end Go.Proofs.YtfangplfbbgphaaGreatDoor
namespace Go.Proofs.YtfangplfbbgphaaGreatDoor
open Go.ChangeShapes Go.WideShapes Go.ChangeAt Go.RowKit
set_option linter.unusedVariables false
attribute [local go_sem ↓] Go.wp_at_zero Go.wp_at_succ
theorem var_keep {P : Program} {w w' : World} {n : String} {cs : Array Value} (h : w.var? P n = some cs) (hb : Below w.heap.size w w') : w'.var? P n = some cs := by
 unfold World.var? at h ⊢
 cases hg : P.globalNamed n with
 | none => rw [hg] at h; cases h
 | some g =>
  rw [hg] at h
  simp only [Option.bind_some] at h ⊢
  cases hh : w.heap[g]? with
  | none => rw [hh] at h; cases h
  | some o =>
   rw [hh] at h
   rw [blk_next hb hh]
   exact h
structure GL (w : World) : Prop where
 tab : Lib.TabIs Tryz.prog w "internal/strconv.uint64pow10" .u64 Lib.pow10Tab
 syn : ∃ tp p, w.var? Tryz.prog "strconv.ErrSyntax" = some #[.iface tp p]
 ran : ∃ tp p, w.var? Tryz.prog "strconv.ErrRange" = some #[.iface tp p]
 max : ∃ m, w.cell? ⟨2, 0, none⟩ = some (.int .i64 m)
theorem cell_keep {w w' : World} {a : Addr} {v : Value} (h : w.cell? a = some v) (hb : Below w.heap.size w w') : w'.cell? a = some v := by
 have : a.block < w.heap.size := by
  unfold World.cell? at h
  cases hh : w.heap[a.block]? with
  | none => rw [hh] at h; cases h
  | some o => exact blk_lt hh
 exact (hb.cell this).trans h
theorem GL.next {w w' : World} (h : GL w) (hb : Below w.heap.size w w') : GL w' :=
 ⟨var_keep h.tab hb, by obtain ⟨t, p, e⟩ := h.syn; exact ⟨t, p, var_keep e hb⟩, by obtain ⟨t, p, e⟩ := h.ran; exact ⟨t, p, var_keep e hb⟩, by obtain ⟨m, e⟩ := h.max; exact ⟨m, cell_keep e hb⟩⟩
structure GT (w : World) : Prop where
 tab : Lib.TabIs Tryz.prog w "internal/strconv.uint64pow10" .u64 Lib.pow10Tab
theorem GT.next {w w' : World} (h : GT w) (hb : Below w.heap.size w w') : GT w' := ⟨var_keep h.tab hb⟩
theorem GL.gt {w : World} (h : GL w) : GT w := ⟨h.tab⟩
abbrev Str (l : List UInt8) : Value := .string ⟨l.toArray⟩
theorem fmt_calls (n : Int) (w : World) (h1 : -9223372036854775808 ≤ n) (h2 : n ≤ 9223372036854775807) (g : GT w) :
  Calls Tryz.prog 76 #[.int .i64 n, .int .i64 10] w fun e w' => e = .returned (Str (Lib.itoa n)) ∧ Below w.heap.size w w' :=
 (Tryz.strconv_FormatInt_10 n h1 h2 w g.tab).mono fun e w' ⟨h, k, os, hw⟩ => ⟨h, by rw [hw]; exact Lib.below_grow _ _ (Nat.le_refl _) k os⟩
theorem cutS_calls (s : ByteArray) (w : World) (hs : s.size < 4294967281) (g : GL w) :
  Calls Tryz.prog 56 #[.string s, .string ⟨#[47]⟩] w fun e w' => e = .returned (.tuple #[Str (Lib.cut s.data.toList [47]).1, Str (Lib.cut s.data.toList [47]).2.1, .bool (Lib.cut s.data.toList [47]).2.2]) ∧ Below w.heap.size w w' := by
 obtain ⟨m, hm⟩ := g.max
 exact (Tryz.strings_Cut s ⟨#[47]⟩ m w hs hm).mono fun e w' ⟨h, k, hw⟩ => ⟨h, by rw [hw]; exact below_drewN (Below.refl _ _) k⟩
theorem parse_bounds {l : List UInt8} {v : Int} (h : Lib.parseIntB 64 l = .ok v) : -9223372036854775808 ≤ v ∧ v ≤ 9223372036854775807 := by
 have := Lib.parseIntB_bounds h
 rw [show ((2 ^ (64 - 1) : Nat) : Int) = 9223372036854775808 from rfl] at this
 omega
def PI (l : List UInt8) (w : World) (e : Ending) (w' : World) : Prop :=
 (∃ v, Lib.parseIntB 64 l = .ok v ∧ -9223372036854775808 ≤ v ∧ v ≤ 9223372036854775807 ∧ e = .returned (.tuple #[.int .i64 v, .nilIface]) ∧ Below w.heap.size w w') ∨ ((∀ v, Lib.parseIntB 64 l ≠ .ok v) ∧ ∃ v t p, e = .returned (.tuple #[.int .i64 v, .iface t p]) ∧ Below w.heap.size w w')
theorem parse_calls (s : ByteArray) (w : World) (hs : s.size ≤ 4294967281) (g : GL w) :
  Calls Tryz.prog 117 #[.string s, .int .i64 10, .int .i64 64] w (PI s.data.toList w) := by
 cases h : Lib.parseIntB 64 s.data.toList with
 | ok v =>
  refine (Tryz.strconv_ParseInt_10_at64_ok s (by omega) v h w).mono fun e w' ⟨h1, h2⟩ => .inl ⟨v, h, ?_, ?_, h1, ?_⟩
  ·exact (parse_bounds h).1
  ·exact (parse_bounds h).2
  ·rcases h2 with rfl | ⟨t, rfl⟩
   ·exact Below.refl _ _
   ·exact Lib.bytesWorld_below _ _ _
 | range =>
  obtain ⟨tp, p, hv⟩ := g.ran
  exact (Tryz.strconv_ParseInt_10_at64_range_var s (by omega) h tp p w hv).mono fun e w' ⟨N, h1, h2, h3, h4⟩ => .inr ⟨fun v => (by rw [h]; intro k; cases k), _, _, _, h1, h4⟩
 | _ =>
  obtain ⟨tp, p, hv⟩ := g.syn
  exact (Tryz.strconv_ParseInt_10_at64_syntax_var s (by omega) ⟨fun v => (by rw [h]; intro k; cases k), by rw [h]; intro k; cases k⟩ tp p w hv).mono fun e w' ⟨N, h1, h2, h3, h4⟩ => .inr ⟨fun v => (by rw [h]; intro k; cases k), _, _, _, h1, h4⟩
theorem cat2 (a b : List UInt8) : (⟨a.toArray⟩ : ByteArray) ++ ⟨b.toArray⟩ = ⟨(a ++ b).toArray⟩ := by
 rw [ByteArray.ext_iff, ByteArray.data_append]
 simp
theorem cat3 (a b : List UInt8) : (⟨a.toArray⟩ : ByteArray) ++ ((⟨#[47]⟩ : ByteArray) ++ ⟨b.toArray⟩) = ⟨(a ++ 47 :: b).toArray⟩ := by
 rw [show (⟨#[47]⟩ : ByteArray) = ⟨[47].toArray⟩ from rfl, cat2, cat2]
 rfl
def txR (n d : Int) : List UInt8 := if errF n d = 0 then textL n d else []
set_option maxRecDepth 100000 in
set_option maxHeartbeats 4000000 in
theorem text_calls (n d : Int) (w : World) (g : GT w) :
  Calls Tryz.prog 51 #[Fv n d] w fun e w' => e = .returned (.tuple #[Str (txR n d), .int .i64 (errF n d)]) ∧ Below w.heap.size w w' := by
 have C1 := Lib.hid (fun W => check_calls n d W)
 have G := Lib.hid g
 clear g
 by_cases ck : errF n d = 0
 rotate_left
 ·have F : Hid (txR n d = []) := Lib.hid (by unfold txR; rw [if_neg ck])
  have ck' : (errF n d != 0) = true := by rw [bne_iff_ne]; exact ck
  generalize txR n d = res at *
  generalize errF n d = er at *
  clear ck
  go_enter Tryz.func51, Tryz.ntmps51
  go_wp2_with fail
  refine (C1.out _).mono ?_
  rintro e w1 ⟨rfl, hb⟩
  have NN := Lib.hid (Bgo (Bal (Below.refl _ _) _) hb)
  clear hb
  go_wp2_with fail
  go_ret2
  exact ⟨by rw [F.out]; rfl, NN.out⟩
 have v := errF_ok ck
 have F : Hid (txR n d = textL n d) := Lib.hid (by unfold txR; rw [if_pos ck])
 rw [ck] at C1 ⊢
 generalize txR n d = res at *
 have n1 := v.n1
 have n2 := v.n2
 have d1 := v.d1
 have d2 := v.d2
 have T1 := Lib.hid (fun W (h : GT W) => fmt_calls n W (by omega) (by omega) h)
 have T2 := Lib.hid (fun W (h : GT W) => fmt_calls d W (by omega) (by omega) h)
 have FT : Hid (textL n d = if d = 1 then Lib.itoa n else Lib.itoa n ++ 47 :: Lib.itoa d) := Lib.hid rfl
 have ln := Lib.itoa_length_le n (by omega) (by omega)
 have ld := Lib.itoa_length_le d (by omega) (by omega)
 generalize Lib.itoa n = tn at *
 generalize Lib.itoa d = td at *
 clear ck v
 by_cases hd : d = 1
 ·have F2 := Lib.hid (F.out.trans (FT.out.trans (if_pos hd)))
  clear F FT
  subst hd
  go_enter Tryz.func51, Tryz.ntmps51
  go_wp2_with fail
  refine (C1.out _).mono ?_
  rintro e w1 ⟨rfl, hb⟩
  have NN := Lib.hid (Bgo (Bal (Below.refl _ _) _) hb)
  have K := Lib.hid (blk_next hb (blk_new w (.cells #[.int .i64 n, .int .i64 1] 36)))
  replace G := Lib.hid (G.out.next NN.out)
  clear hb
  have a0 := blk_cell K.out 0 _ rfl
  have a1 := blk_cell K.out 1 _ rfl
  have al := blk_lt K.out
  go_wp2_with fail
  refine (T1.out _ G.out).mono ?_
  rintro e w2 ⟨rfl, hb⟩
  clear a0 a1 al
  replace NN := Lib.hid (Bgo NN.out hb)
  replace K := Lib.hid (blk_next hb K.out)
  replace G := Lib.hid (G.out.next hb)
  clear hb
  have a0 := blk_cell K.out 0 _ rfl
  have a1 := blk_cell K.out 1 _ rfl
  have al := blk_lt K.out
  go_wp2_with fail
  go_ret2
  exact ⟨by rw [F2.out]; rfl, NN.out⟩
 ·have F2 := Lib.hid (F.out.trans (FT.out.trans (if_neg hd)))
  clear F FT
  have hd' : (d != 1) = true := by rw [bne_iff_ne]; exact hd
  clear hd
  go_enter Tryz.func51, Tryz.ntmps51
  go_wp2_with fail
  refine (C1.out _).mono ?_
  rintro e w1 ⟨rfl, hb⟩
  have NN := Lib.hid (Bgo (Bal (Below.refl _ _) _) hb)
  have K := Lib.hid (blk_next hb (blk_new w (.cells #[.int .i64 n, .int .i64 d] 36)))
  replace G := Lib.hid (G.out.next NN.out)
  clear hb
  have a0 := blk_cell K.out 0 _ rfl
  have a1 := blk_cell K.out 1 _ rfl
  have al := blk_lt K.out
  go_wp2_with fail
  refine (T1.out _ G.out).mono ?_
  rintro e w2 ⟨rfl, hb⟩
  clear a0 a1 al
  replace NN := Lib.hid (Bgo NN.out hb)
  replace K := Lib.hid (blk_next hb K.out)
  replace G := Lib.hid (G.out.next hb)
  clear hb
  have a0 := blk_cell K.out 0 _ rfl
  have a1 := blk_cell K.out 1 _ rfl
  have al := blk_lt K.out
  go_wp2_with fail
  refine (T2.out _ G.out).mono ?_
  rintro e w3 ⟨rfl, hb⟩
  replace NN := Lib.hid (Bgo NN.out hb)
  clear hb a0 a1 al
  go_wp2_with fail
  rw [cat3 tn td, ← F2.out]
  go_ret2
  exact ⟨rfl, NN.out⟩
end Go.Proofs.YtfangplfbbgphaaGreatDoor
