/- Several texts in one. -/
import Derived.Shelf.Strings.Builder1
import Derived.Shelf.Small.Bits
import Derived.Shelf.Strings.BuilderF
import Derived.Shelf.Strings.BuilderK
import Derived.Shelf.Strconv.Itoa0
import Derived.Shelf.Strconv.Itoa1
import Derived.Shelf.LaysM
import Derived.Shelf.Strconv.Itoa2
import Derived.Shelf.Strconv.Itoa3
import Derived.Shelf.Strconv.Itoa4
import Derived.Shelf.Strconv.ParseIntEmpty
import Derived.Shelf.Strconv.Clone
import Derived.Shelf.Strconv.SyntaxError
import Derived.Shelf.LaysC
import Derived.Shelf.Strconv.ToError
import Derived.Shelf.Strconv.Lower
import Derived.Shelf.Strconv.ParseUint10
import Derived.Shelf.Strconv.ParseUint10Empty
import Derived.Shelf.Strconv.ParseUint10Any
import Derived.Shelf.Strconv.ParseInt10
import Derived.Shelf.Strconv.RangeError
import Derived.Shelf.Strconv.ToErrorRange
import Derived.Shelf.Strconv.ParseUintEmpty
import Derived.Shelf.Strconv.ParseUint10b64
import Derived.Shelf.Strconv.ParseUint10b32
import Derived.Shelf.Strconv.ParseUint10b16
import Derived.Shelf.Strconv.ParseUint10b8
import Derived.Shelf.Strconv.ParseUint10At
import Derived.Shelf.Strconv.ParseInt10At64
import Derived.Shelf.Strconv.ParseInt10At32
import Derived.Shelf.Strconv.ParseInt10At16
import Derived.Shelf.Strconv.ParseInt10At8
import Derived.Shelf.Strconv.ParseInt10All
import Derived.Shelf.Strconv.ParseIntPublic10
import Derived.Shelf.Strconv.ErrVarParseInt
import Derived.Shelf.Strings.Search1
import Derived.Shelf.Strings.Search2
import Derived.Shelf.Strings.Cut
import Derived.Shelf.Strings.Shaped
import Derived.Shelf.Bits.Mul64
import Derived.Shelf.Strings.BuilderCap
import Derived.Test.YtfangplfbbgphaaGreatDoorProg
import Derived.Lib.Builder
import Derived.Lib.AppendStr
import Derived.Lib.UnsafeStr
import Derived.Lib.Strings
import Derived.Lib.Walk
import Derived.WalkKit
import Derived.Laws.Externs
import Derived.Lib.ItoaNum
import Derived.Lib.ItoaMem
import Derived.Lib.ItoaLen
import Derived.Lib.ParseIntB
import Derived.Lib.IndexMore
import Derived.Lib.IndexBytes
import Derived.Lib.IndexLaws
import Derived.Lib.AtoiErrMem
import Derived.Lib.ParseIntBTie
import Derived.Lib.AppendIntMem
import Derived.Test.YtfangplfbbgphaaGreatDoorMC00
import Derived.Test.YtfangplfbbgphaaGreatDoorMC01
import Derived.Test.YtfangplfbbgphaaGreatDoorMC11
import Derived.Test.YtfangplfbbgphaaGreatDoorMC17
import Derived.Test.YtfangplfbbgphaaGreatDoorMC19
namespace Go.Proofs.YtfangplfbbgphaaGreatDoor
set_option linter.unusedVariables false
set_option maxRecDepth 100000
set_option linter.unusedSimpArgs false
theorem negV_negV (v : V6) : negV (negV v) = v := by cases v; simp [negV]
structure ClInv (L : Nat × Nat → V6) (cs : List Cl) (D : List (Nat × Nat)) : Prop where
 ne : ∀ c ∈ cs, c.2 ≠ []
 apart : ∀ (i j : Nat) (c d : Cl), i < j → cs[i]? = some c → cs[j]? = some d → c.1 ≠ d.1 ∧ c.1 ≠ negV d.1
 line : ∀ c ∈ cs, ∀ (m : Nat) (p : Nat × Nat), c.2[m]? = some p → L p = c.1 ∨ (m ≠ 0 ∧ L p = negV c.1)
 cnt : ∀ q, (cs.flatMap (·.2)).count q = D.count q
 src : ∀ c ∈ cs, ∃ p ∈ D, c.1 = L p
theorem putC_mem {p : Nat × Nat} {v b : V6} : ∀ {cs : List Cl} {c : Cl}, c ∈ putC p v b cs → c ∈ cs ∨ c = (v, [p]) ∨ ∃ d ∈ cs, hitC v b d = true ∧ c = (d.1, d.2 ++ [p])
 | [], c, h => by simp [putC] at h; exact .inr (.inl h)
 | d :: cs, c, h => by
  unfold putC at h
  split at h
  ·rename_i hh
   rcases List.mem_cons.1 h with rfl | h
   ·exact .inr (.inr ⟨d, List.mem_cons_self .., hh, rfl⟩)
   ·exact .inl (List.mem_cons_of_mem _ h)
  ·rcases List.mem_cons.1 h with rfl | h
   ·exact .inl (List.mem_cons_self ..)
   ·rcases putC_mem h with h | h | ⟨d', h1, h2⟩
    ·exact .inl (List.mem_cons_of_mem _ h)
    ·exact .inr (.inl h)
    ·exact .inr (.inr ⟨d', List.mem_cons_of_mem _ h1, h2⟩)
theorem putC_cnt {p : Nat × Nat} {v b : V6} (q : Nat × Nat) : ∀ {cs : List Cl}, ((putC p v b cs).flatMap (·.2)).count q = (cs.flatMap (·.2)).count q + [p].count q
 | [] => by simp [putC]
 | d :: cs => by
  unfold putC
  split
  ·simp only [List.flatMap_cons, List.count_append]; omega
  ·simp only [List.flatMap_cons, List.count_append]; rw [putC_cnt q]; omega
theorem putC_vecs {p : Nat × Nat} {v b : V6} : ∀ {cs : List Cl}, (putC p v b cs).map (·.1) = cs.map (·.1) ∨ ((putC p v b cs).map (·.1) = cs.map (·.1) ++ [v] ∧ ∀ c ∈ cs, c.1 ≠ v ∧ c.1 ≠ b)
 | [] => .inr ⟨rfl, by simp⟩
 | d :: cs => by
  unfold putC
  split
  ·exact .inl rfl
  ·rename_i hh
   rcases putC_vecs (p := p) (v := v) (b := b) (cs := cs) with h | ⟨h, h'⟩
   ·exact .inl (by simp only [List.map_cons, h])
   ·refine .inr ⟨by simp only [List.map_cons, h, List.cons_append], fun c hc => ?_⟩
    rcases List.mem_cons.1 hc with rfl | hc
    ·unfold hitC at hh
     simp only [Bool.or_eq_true, decide_eq_true_eq, not_or] at hh
     exact hh
    ·exact h' c hc
theorem ClInv.nil (L : Nat × Nat → V6) : ClInv L [] [] := ⟨by simp, by simp, by simp, by simp, by simp⟩
theorem ClInv.put {L : Nat × Nat → V6} {cs : List Cl} {D : List (Nat × Nat)} (h : ClInv L cs D) (p : Nat × Nat) : ClInv L (putC p (L p) (negV (L p)) cs) (D ++ [p]) where
 ne := fun c hc => by
  rcases putC_mem hc with h1 | rfl | ⟨d, _, _, rfl⟩
  ·exact h.ne c h1
  ·simp
  ·simp
 apart := fun i j c d hij hi hj => by
  have vi : ((putC p (L p) (negV (L p)) cs).map (·.1))[i]? = some c.1 := by rw [List.getElem?_map, hi]; rfl
  have vj : ((putC p (L p) (negV (L p)) cs).map (·.1))[j]? = some d.1 := by rw [List.getElem?_map, hj]; rfl
  have old : ∀ (a b : V6), (cs.map (·.1))[i]? = some a → (cs.map (·.1))[j]? = some b → a ≠ b ∧ a ≠ negV b := fun a b ha hb => by
   rw [List.getElem?_map] at ha hb
   obtain ⟨c', hc', rfl⟩ := Option.map_eq_some_iff.1 ha
   obtain ⟨d', hd', rfl⟩ := Option.map_eq_some_iff.1 hb
   exact h.apart i j c' d' hij hc' hd'
  rcases putC_vecs (p := p) (v := L p) (b := negV (L p)) (cs := cs) with e | ⟨e, hno⟩
  ·rw [e] at vi vj
   exact old _ _ vi vj
  ·rw [e] at vi vj
   have hjl := (List.getElem?_eq_some_iff.1 vj).1
   simp only [List.length_append, List.length_map, List.length_cons, List.length_nil] at hjl
   rw [List.getElem?_append_left (by rw [List.length_map]; omega)] at vi
   by_cases hj' : j < cs.length
   ·rw [List.getElem?_append_left (by rw [List.length_map]; exact hj')] at vj
    exact old _ _ vi vj
   ·have e2 : j = (cs.map (·.1)).length := by rw [List.length_map]; omega
    rw [e2, List.getElem?_concat_length] at vj
    injection vj with vj
    rw [← vj]
    rw [List.getElem?_map] at vi
    obtain ⟨c', hc', e3⟩ := Option.map_eq_some_iff.1 vi
    rw [← e3]
    exact hno c' (List.mem_of_getElem? hc')
 line := fun c hc m q hq => by
  rcases putC_mem hc with h1 | rfl | ⟨d, h1, hh, rfl⟩
  ·exact h.line c h1 m q hq
  ·left
   cases m with
   | zero => simp at hq; rw [hq]
   | succ m => simp at hq
  ·simp only at hq ⊢
   by_cases hm : m < d.2.length
   ·rw [List.getElem?_append_left hm] at hq
    exact h.line d h1 m q hq
   ·have hml := (List.getElem?_eq_some_iff.1 hq).1
    simp only [List.length_append, List.length_cons, List.length_nil] at hml
    have e2 : m = d.2.length := by omega
    rw [e2, List.getElem?_concat_length] at hq
    injection hq with hq
    subst hq
    unfold hitC at hh
    simp only [Bool.or_eq_true, decide_eq_true_eq] at hh
    rcases hh with hh | hh
    ·exact .inl hh.symm
    ·refine .inr ⟨?_, by rw [hh, negV_negV]⟩
     have := h.ne d h1
     cases hd : d.2 with
     | nil => exact absurd hd this
     | cons a t => rw [e2, hd]; simp
 cnt := fun q => by rw [putC_cnt, h.cnt, List.count_append]
 src := fun c hc => by
  rcases putC_mem hc with h1 | rfl | ⟨d, h1, hh, rfl⟩
  ·obtain ⟨x, hx, e⟩ := h.src c h1; exact ⟨x, List.mem_append_left _ hx, e⟩
  ·exact ⟨p, by simp, rfl⟩
  ·obtain ⟨x, hx, e⟩ := h.src d h1; exact ⟨x, List.mem_append_left _ hx, e⟩
def hadD (P D : List (Nat × Nat)) : List Int := P.map fun q => ((D.count q : Nat) : Int)
def hadT (P D : List (Nat × Nat)) (p : Nat × Nat) (t : Nat) : List Int := (hadD P (D ++ [p])).take t ++ (hadD P D).drop t
theorem hadD_len (P D : List (Nat × Nat)) : (hadD P D).length = P.length := by simp [hadD]
theorem hadT_len (P D : List (Nat × Nat)) (p : Nat × Nat) (t : Nat) : (hadT P D p t).length = P.length := by simp [hadT, hadD]; omega
theorem hadT_zero (P D : List (Nat × Nat)) (p : Nat × Nat) : hadT P D p 0 = hadD P D := by simp [hadT]
theorem hadT_all (P D : List (Nat × Nat)) (p : Nat × Nat) : hadT P D p P.length = hadD P (D ++ [p]) := by
 unfold hadT; rw [List.take_of_length_le (by rw [hadD_len]; exact Nat.le_refl _), List.drop_of_length_le (by rw [hadD_len]; exact Nat.le_refl _), List.append_nil]
theorem hadD_get {P D : List (Nat × Nat)} {t : Nat} {q : Nat × Nat} (hq : P[t]? = some q) : (hadD P D)[t]? = some ((D.count q : Nat) : Int) := by
 unfold hadD; rw [List.getElem?_map, hq]; rfl
theorem hadT_get {P D : List (Nat × Nat)} {p q : Nat × Nat} {t : Nat} (hq : P[t]? = some q) : (hadT P D p t)[t]? = some ((D.count q : Nat) : Int) := by
 have ht := (List.getElem?_eq_some_iff.1 hq).1
 unfold hadT
 rw [List.getElem?_append_right (by simp [hadD_len]; omega), List.getElem?_drop]
 rw [show t + (t - ((hadD P (D ++ [p])).take t).length) = t by simp [hadD_len]; omega]
 exact hadD_get hq
theorem hadT_succ {P D : List (Nat × Nat)} {p q : Nat × Nat} {t : Nat} (hq : P[t]? = some q) : hadT P D p (t + 1) = (hadT P D p t).set t (((D ++ [p]).count q : Nat) : Int) := by
 have ht := (List.getElem?_eq_some_iff.1 hq).1
 apply List.ext_getElem?
 intro j
 by_cases hj : j = t
 ·subst hj
  rw [List.getElem?_set_self (by rw [hadT_len]; exact ht)]
  unfold hadT
  rw [List.getElem?_append_left (by simp [hadD_len]; omega), List.getElem?_take_of_lt (by omega)]
  exact hadD_get hq
 ·rw [List.getElem?_set_ne (Ne.symm hj)]
  unfold hadT
  rcases Nat.lt_or_gt_of_ne hj with h | h
  ·rw [List.getElem?_append_left (by simp [hadD_len]; omega), List.getElem?_append_left (by simp [hadD_len]; omega), List.getElem?_take_of_lt (by omega), List.getElem?_take_of_lt h]
  ·rw [List.getElem?_append_right (by simp [hadD_len]; omega), List.getElem?_append_right (by simp [hadD_len]; omega), List.getElem?_drop, List.getElem?_drop]
   congr 1
   simp [hadD_len]; omega
theorem hadT_same {P D : List (Nat × Nat)} {p q : Nat × Nat} {t : Nat} (hq : P[t]? = some q) (hne : q ≠ p) : hadT P D p (t + 1) = hadT P D p t := by
 rw [hadT_succ hq]
 have h := hadT_get (D := D) (p := p) hq
 obtain ⟨h1, h2⟩ := List.getElem?_eq_some_iff.1 h
 rw [show (((D ++ [p]).count q : Nat) : Int) = ((D.count q : Nat) : Int) by rw [List.count_append, List.count_singleton]; simp [Ne.symm hne], ← h2, List.set_getElem_self]
theorem hadT_hit {P D : List (Nat × Nat)} {p : Nat × Nat} {t : Nat} (hq : P[t]? = some p) : hadT P D p (t + 1) = (hadT P D p t).set t (((D.count p : Nat) : Int) + 1) := by
 rw [hadT_succ hq]; congr 1; rw [List.count_append, List.count_singleton]; simp
theorem hadD_nil (P : List (Nat × Nat)) : hadD P [] = List.replicate P.length 0 := by
 unfold hadD; simp
 exact List.map_const' ..
def pairsOf {α : Type} : List α → List (α × α)
 | [] => []
 | a :: l => l.map (fun b => (a, b)) ++ pairsOf l
theorem pairsOf_mem {α : Type} : ∀ {l : List α} {p : α × α}, p ∈ pairsOf l → p.1 ∈ l ∧ p.2 ∈ l
 | [], p, h => by cases h
 | a :: l, p, h => by
  unfold pairsOf at h
  rcases List.mem_append.1 h with h | h
  ·obtain ⟨b, hb, rfl⟩ := List.mem_map.1 h
   exact ⟨List.mem_cons_self .., List.mem_cons_of_mem _ hb⟩
  ·obtain ⟨h1, h2⟩ := pairsOf_mem h
   exact ⟨List.mem_cons_of_mem _ h1, List.mem_cons_of_mem _ h2⟩
def prsP (n : Nat) : Bool := decide (prs n = pairsOf (List.range n))
theorem prsP_all : (List.range 9).all prsP = true := by decide +kernel
theorem prs_pairs {n : Nat} (h : n < 9) : prs n = pairsOf (List.range n) := by
 have := List.all_eq_true.1 prsP_all n (List.mem_range.2 h)
 exact of_decide_eq_true this
def isPM (u v : V6) : Bool := decide (u = v) || decide (u = negV v)
theorem isPM_iff {u v : V6} : isPM u v = true ↔ u = v ∨ u = negV v := by unfold isPM; simp
theorem isPM_neg (u v : V6) : isPM (negV u) v = isPM u v := by
 rw [Bool.eq_iff_iff, isPM_iff, isPM_iff]
 constructor
 ·rintro (h | h)
  ·right; rw [← h, negV_negV]
  ·left; have := congrArg negV h; rwa [negV_negV, negV_negV] at this
 ·rintro (h | h)
  ·right; rw [h]
  ·left; rw [h, negV_negV]
theorem isPM_comm (u v : V6) : isPM u v = isPM v u := by
 rw [Bool.eq_iff_iff, isPM_iff, isPM_iff]
 constructor
 ·rintro (h | h)
  ·exact .inl h.symm
  ·right; rw [h, negV_negV]
 ·rintro (h | h)
  ·exact .inl h.symm
  ·right; rw [h, negV_negV]
theorem isPM_of {u v : V6} (h : isPM u v = true) (x : V6) : isPM x u = isPM x v := by
 rcases isPM_iff.1 h with rfl | rfl
 ·rfl
 ·rw [isPM_comm, isPM_neg, isPM_comm]
theorem isPM_self (v : V6) : isPM v v = true := by unfold isPM; simp
section
variable {α : Type} {ln : α → α → V6}
def lnOf (ln : α → α → V6) (l : List α) (p : Nat × Nat) : V6 := match l[p.1]?, l[p.2]? with | some s, some t => ln s t | _, _ => zV
theorem prs_in {n : Nat} (h : n < 9) {p : Nat × Nat} (hp : p ∈ prs n) : p.1 < n ∧ p.2 < n := by
 rw [prs_pairs h] at hp
 obtain ⟨h1, h2⟩ := pairsOf_mem hp
 exact ⟨List.mem_range.1 h1, List.mem_range.1 h2⟩
theorem lnOf_at {l : List α} {p : Nat × Nat} (h : l.length < 9) (hp : p ∈ prs l.length) : ∃ s t, l[p.1]? = some s ∧ l[p.2]? = some t ∧ s ∈ l ∧ t ∈ l ∧ lnOf ln l p = ln s t := by
 obtain ⟨h1, h2⟩ := prs_in h hp
 obtain ⟨s, hs⟩ := get_some h1
 obtain ⟨t, ht⟩ := get_some h2
 exact ⟨s, t, hs, ht, List.mem_of_getElem? hs, List.mem_of_getElem? ht, by unfold lnOf; rw [hs, ht]⟩
theorem ClInv.pm {L : Nat × Nat → V6} {cs : List Cl} {D : List (Nat × Nat)} (h : ClInv L cs D) {c : Cl} (hc : c ∈ cs) {p : Nat × Nat} (hp : p ∈ c.2) : isPM (L p) c.1 = true := by
 obtain ⟨m, hm⟩ := List.mem_iff_getElem?.1 hp
 rcases h.line c hc m p hm with e | ⟨_, e⟩
 ·rw [e]; exact isPM_self _
 ·exact isPM_iff.2 (.inr e)
theorem ClInv.far {L : Nat × Nat → V6} {cs : List Cl} {D : List (Nat × Nat)} (h : ClInv L cs D) {i j : Nat} {c d : Cl} (hi : cs[i]? = some c) (hj : cs[j]? = some d) (hij : i ≠ j) : isPM c.1 d.1 = false := by
 rw [Bool.eq_false_iff]
 intro hp
 rcases Nat.lt_or_gt_of_ne hij with h1 | h1
 ·have := h.apart i j c d h1 hi hj
  rcases isPM_iff.1 hp with e | e
  ·exact this.1 e
  ·exact this.2 e
 ·have := h.apart j i d c h1 hj hi
  rw [isPM_comm] at hp
  rcases isPM_iff.1 hp with e | e
  ·exact this.1 e
  ·exact this.2 e
theorem split_at {β : Type} {cs : List β} {i : Nat} {c : β} (h : cs[i]? = some c) : cs = cs.take i ++ c :: cs.drop (i + 1) := by
 obtain ⟨h1, h2⟩ := List.getElem?_eq_some_iff.1 h
 rw [← h2, ← List.drop_eq_getElem_cons h1, List.take_append_drop]
theorem ClInv.size {L : Nat × Nat → V6} {cs : List Cl} {D : List (Nat × Nat)} (h : ClInv L cs D) {i : Nat} {c : Cl} (hi : cs[i]? = some c) : c.2.length = D.countP (fun p => isPM (L p) c.1) := by
 have hp : (cs.flatMap (·.2)).Perm D := List.perm_iff_count.2 h.cnt
 rw [← hp.countP_eq, split_at hi]
 simp only [List.flatMap_append, List.flatMap_cons, List.countP_append]
 have hmc := List.mem_of_getElem? hi
 have z1 : ((cs.take i).flatMap (·.2)).countP (fun p => isPM (L p) c.1) = 0 := by
  rw [List.countP_eq_zero]
  intro p hp
  obtain ⟨d, hd, hpd⟩ := List.mem_flatMap.1 hp
  obtain ⟨j, hj⟩ := List.mem_iff_getElem?.1 hd
  rw [List.getElem?_take] at hj
  split at hj
  ·rename_i hlt
   have h1 := h.pm (List.mem_of_getElem? hj) hpd
   have h2 := h.far hi hj (by omega)
   rw [← isPM_of h1, isPM_comm] at h2
   rw [h2]; simp
  ·cases hj
 have z2 : ((cs.drop (i + 1)).flatMap (·.2)).countP (fun p => isPM (L p) c.1) = 0 := by
  rw [List.countP_eq_zero]
  intro p hp
  obtain ⟨d, hd, hpd⟩ := List.mem_flatMap.1 hp
  obtain ⟨j, hj⟩ := List.mem_iff_getElem?.1 hd
  rw [List.getElem?_drop] at hj
  have h1 := h.pm (List.mem_of_getElem? hj) hpd
  have h2 := h.far hi hj (by omega)
  rw [← isPM_of h1, isPM_comm] at h2
  rw [h2]; simp
 have z3 : c.2.countP (fun p => isPM (L p) c.1) = c.2.length := List.countP_eq_length.2 fun p hp => h.pm hmc hp
 rw [z1, z2, z3]; omega
end
def lnS (A B : Int) (s t : St) : V6 := subV (plV A B t) (plV A B s)
theorem plE_len {A B : Int} {l : List St} (h : plE A B l = 0) : l.length < 9 := by
 have := (stsE_ok (plE_ok h).2.1).1
 omega
theorem lnS_opp {A B : Int} {l : List St} (h : plE A B l = 0) : ∀ s ∈ l, ∀ t ∈ l, lnS A B t s = negV (lnS A B s t) := fun s hs t ht => subV_swap (line_ok h hs ht)
theorem clsK_inv {A B : Int} {l : List St} (h : plE A B l = 0) : ∀ k, k ≤ (prs l.length).length → ClInv (lnOf (lnS A B) l) (clsK (pls A B l) l.length k) ((prs l.length).take k)
 | 0, _ => by rw [clsK_zero, List.take_zero]; exact ClInv.nil _
 | k + 1, hk => by
  obtain ⟨p, hp⟩ := get_some (show k < (prs l.length).length by omega)
  obtain ⟨s, t, hs, ht, ms, mt, e⟩ := lnOf_at (ln := lnS A B) (plE_len h) (List.mem_of_getElem? hp)
  rw [clsK_step (i := p.1) (j := p.2) hp (pls_get hs) (pls_get ht), prs_take hp]
  have h1 := (clsK_inv h k (by omega)).put p
  rw [e] at h1
  have e2 : subV (plV A B s) (plV A B t) = negV (lnS A B s t) := lnS_opp h s ms t mt
  show ClInv _ (putC p (lnS A B s t) (subV (plV A B s) (plV A B t)) _) _
  rw [e2]; exact h1
theorem clsL_inv {A B : Int} {l : List St} (h : plE A B l = 0) : ClInv (lnOf (lnS A B) l) (clsL A B l) (prs l.length) := by
 have := clsK_inv h (prs l.length).length (Nat.le_refl _)
 rwa [List.take_length] at this
def prsO (n : Nat) : Bool := decide ((prs n).length = n * (n - 1) / 2) && (prs n).all fun q => (prs n).count q == 1
theorem prsO_all : (List.range 9).all prsO = true := by decide +kernel
theorem prs_one {n : Nat} (h : n < 9) : (prs n).length = n * (n - 1) / 2 ∧ ∀ q ∈ prs n, (prs n).count q = 1 := by
 have := List.all_eq_true.1 prsO_all n (List.mem_range.2 h)
 unfold prsO at this
 rw [Bool.and_eq_true, decide_eq_true_eq, List.all_eq_true] at this
 exact ⟨this.1, fun q hq => by simpa using this.2 q hq⟩
end Go.Proofs.YtfangplfbbgphaaGreatDoor
namespace Go.Proofs
open Go.Shelf
def Tryz.lays169_ren : Go.Shelf.Ren := ⟨fun | 169 => 53 | n => n, fun | 70 => 107 | 9 => 9 | 0 => 0 | 72 => 110 | 37 => 108 | 127 => 140 | 3 => 3 | 5 => 5 | n => n, fun | n => n⟩
theorem Tryz.lays169 : Go.Proofs.Lays.n169 Tryz.prog Tryz.lays169_ren := {
 mixed := by kernel_rfl
 f169 := Tryz.func53.trans (congrArg some (by kernel_rfl))
 t0 := Tryz.underlying0
 a0 := Tryz.isAgg0
 z0 := Tryz.sizeOf0
 v0 := Tryz.zeroValue0
 t3 := Tryz.underlying3
 a3 := Tryz.isAgg3
 z3 := Tryz.sizeOf3
 v3 := Tryz.zeroValue3
 t9 := Tryz.underlying9
 a9 := Tryz.isAgg9
 z9 := Tryz.sizeOf9
 v9 := Tryz.zeroValue9
 t37 := Tryz.underlying108
 a37 := Tryz.isAgg108
 z37 := Tryz.sizeOf108
 v37 := Tryz.zeroValue108
 t70 := Tryz.underlying107
 a70 := Tryz.isAgg107
 z70 := Tryz.sizeOf107
 v70 := Tryz.zeroValue107
 t72 := Tryz.underlying110
 a72 := Tryz.isAgg110
 z72 := Tryz.sizeOf110
 v72 := Tryz.zeroValue110
 t127 := Tryz.underlying140
 a127 := Tryz.isAgg140
 z127 := Tryz.sizeOf140
 v127 := Tryz.zeroValue140 }
theorem Tryz.Builder_Extra_169 : Builder.Extra Tryz.prog Tryz.lays169_ren := {
 sizeBuilder := by kernel_rfl
 liesBuilder := by kernel_rfl
 t5 := Tryz.underlying5
 a5 := Tryz.isAgg5
 z5 := Tryz.sizeOf5
 v5 := Tryz.zeroValue5
 infoByte := by kernel_rfl
 cellsByte := by kernel_rfl
 sizeByte := by kernel_rfl
 neB5 := by decide }
open Go.RowKit in
theorem Tryz.Builder_String_any (B b : Nat) (l : List UInt8) (w : World) (h : Lib.IsBuilder 110 5 B b (Lib.byteCells l) w) (hBw : B ≤ w.heap.size) :
  Calls Tryz.prog 53 #[.pointer (some ⟨b, 0, none⟩)] w fun e w' => e = .returned (.string ⟨l.toArray⟩) ∧ Below B w w' := Any.Builder_String_any Tryz.lays169 Tryz.Builder_Extra_169 B b l w h hBw
def Tryz.laysM173_ren : Go.Shelf.Ren := ⟨fun | 173 => 76 | 246 => 111 | 283 => 128 | 284 => 129 | 285 => 130 | 286 => 131 | 129 => 138 | 317 => 139 | 318 => 140 | 319 => 141 | 320 => 142 | 337 => 150 | 338 => 151 | n => n, fun | 2 => 2 | 3 => 3 | 9 => 9 | 4 => 4 | 171 => 188 | 0 => 0 | 53 => 150 | 37 => 108 | 5 => 5 | 173 => 190 | 212 => 196 | 51 => 197 | 20 => 20 | 213 => 198 | 46 => 183 | 232 => 214 | 233 => 215 | n => n, fun | 17 => 3 | 18 => 6 | 19 => 7 | n => n⟩
theorem Tryz.laysM173 : Go.Proofs.LaysM.n173 Tryz.prog Tryz.laysM173_ren := {
 mixed := by kernel_rfl
 f129 := Tryz.func138.trans (congrArg some (by kernel_rfl))
 f173 := Tryz.func76.trans (congrArg some (by kernel_rfl))
 f246 := Tryz.func111.trans (congrArg some (by kernel_rfl))
 f283 := Tryz.func128.trans (congrArg some (by kernel_rfl))
 f284 := Tryz.func129.trans (congrArg some (by kernel_rfl))
 f285 := Tryz.func130.trans (congrArg some (by kernel_rfl))
 f286 := Tryz.func131.trans (congrArg some (by kernel_rfl))
 f317 := Tryz.func139.trans (congrArg some (by kernel_rfl))
 f318 := Tryz.func140.trans (congrArg some (by kernel_rfl))
 f319 := Tryz.func141.trans (congrArg some (by kernel_rfl))
 f320 := Tryz.func142.trans (congrArg some (by kernel_rfl))
 f337 := Tryz.func150.trans (congrArg some (by kernel_rfl))
 f338 := Tryz.func151.trans (congrArg some (by kernel_rfl))
 t0 := Tryz.underlying0
 a0 := Tryz.isAgg0
 z0 := Tryz.sizeOf0
 v0 := Tryz.zeroValue0
 t2 := Tryz.underlying2
 a2 := Tryz.isAgg2
 z2 := Tryz.sizeOf2
 v2 := Tryz.zeroValue2
 t3 := Tryz.underlying3
 a3 := Tryz.isAgg3
 z3 := Tryz.sizeOf3
 v3 := Tryz.zeroValue3
 t4 := Tryz.underlying4
 a4 := Tryz.isAgg4
 z4 := Tryz.sizeOf4
 v4 := Tryz.zeroValue4
 t5 := Tryz.underlying5
 a5 := Tryz.isAgg5
 z5 := Tryz.sizeOf5
 v5 := Tryz.zeroValue5
 t9 := Tryz.underlying9
 a9 := Tryz.isAgg9
 z9 := Tryz.sizeOf9
 v9 := Tryz.zeroValue9
 t20 := Tryz.underlying20
 a20 := Tryz.isAgg20
 z20 := Tryz.sizeOf20
 v20 := Tryz.zeroValue20
 t37 := Tryz.underlying108
 a37 := Tryz.isAgg108
 z37 := Tryz.sizeOf108
 v37 := Tryz.zeroValue108
 t46 := Tryz.underlying183
 a46 := Tryz.isAgg183
 z46 := Tryz.sizeOf183
 v46 := Tryz.zeroValue183
 t51 := Tryz.underlying197
 a51 := Tryz.isAgg197
 z51 := Tryz.sizeOf197
 v51 := Tryz.zeroValue197
 t53 := Tryz.underlying150
 a53 := Tryz.isAgg150
 z53 := Tryz.sizeOf150
 v53 := Tryz.zeroValue150
 t171 := Tryz.underlying188
 a171 := Tryz.isAgg188
 z171 := Tryz.sizeOf188
 v171 := Tryz.zeroValue188
 t173 := Tryz.underlying190
 a173 := Tryz.isAgg190
 z173 := Tryz.sizeOf190
 v173 := Tryz.zeroValue190
 t212 := Tryz.underlying196
 a212 := Tryz.isAgg196
 z212 := Tryz.sizeOf196
 v212 := Tryz.zeroValue196
 t213 := Tryz.underlying198
 a213 := Tryz.isAgg198
 z213 := Tryz.sizeOf198
 t232 := Tryz.underlying214
 a232 := Tryz.isAgg214
 z232 := Tryz.sizeOf214
 v232 := Tryz.zeroValue214
 t233 := Tryz.underlying215
 a233 := Tryz.isAgg215
 z233 := Tryz.sizeOf215
 v233 := Tryz.zeroValue215
 g17 := by kernel_rfl
 g18 := by kernel_rfl
 g19 := by kernel_rfl
 i0 := by kernel_rfl
 i2 := by kernel_rfl
 i3 := by kernel_rfl
 i4 := by kernel_rfl
 i5 := by kernel_rfl
 i9 := by kernel_rfl
 i20 := by kernel_rfl
 i37 := by kernel_rfl
 i46 := by kernel_rfl
 i51 := by kernel_rfl
 i53 := by kernel_rfl
 i171 := by kernel_rfl
 i173 := by kernel_rfl
 i212 := by kernel_rfl
 i232 := by kernel_rfl
 i233 := by kernel_rfl
 m17 := by kernel_rfl
 m18 := by kernel_rfl
 m19 := by kernel_rfl }
open Go.RowKit Go.Sort Go.Lib in
theorem Tryz.strconv_FormatInt_10 (n : Int) (h0 : -9223372036854775808 ≤ n) (h1 : n ≤ 9223372036854775807) (w : World) (htab : Lib.TabIs Tryz.prog w "internal/strconv.uint64pow10" .u64 Lib.pow10Tab) :
  Calls Tryz.prog 76 #[.int .i64 n, .int .i64 10] w fun e w' => e = .returned (.string ⟨(Lib.itoa n).toArray⟩) ∧ ∃ k os, w' = grow (w.drewN k) os := Any.strconv_FormatInt_10 Tryz.laysM173 n h0 h1 w htab
end Go.Proofs
namespace Go.Proofs.YtfangplfbbgphaaGreatDoor
open Go Go.RowKit
set_option linter.unusedVariables false
set_option maxRecDepth 100000
theorem sb_size : (Tryz.prog.info? 110).map (·.size) = some 2 := by kernel_rfl
theorem sb_lies : liesAt Tryz.prog Tryz.prog.depth 110 (2 / Tryz.prog.cellsOf 110) 0 110 1 = true := by kernel_rfl
theorem sb_byte : (Tryz.prog.info? 5).map (fun i => (i.zero, i.size, i.bytes)) = some (some (.int .u8 0), 1, 1) := by kernel_rfl
set_option maxHeartbeats 1000000 in
set_option maxRecDepth 100000 in
theorem sb_used (b : Nat) (w : World) (h0 : w.cell? ⟨b, 0, none⟩ = some (.pointer (some ⟨b, 0, none⟩))) :
  Calls Tryz.prog 77 #[.pointer (some ⟨b, 0, none⟩)] w fun e w' => e = .returned (.tuple #[]) ∧ w' = w := by
 obtain ⟨j, hj, _⟩ := Option.map_eq_some_iff.1 sb_size
 go_enter Tryz.func77, Tryz.ntmps77
 go_wp2
 rw [Lib.run_neq_ptr_same w _ Tryz.underlying107 hj]
 go_wp2
 go_end0
 exact ⟨rfl, rfl⟩
set_option maxHeartbeats 1000000 in
set_option maxRecDepth 100000 in
theorem sb_fresh (b : Nat) (w : World) (h0 : w.cell? ⟨b, 0, none⟩ = some (.pointer none)) (hsh : w.shape? b = some (110, 2)) (hfz : w.frozen? ⟨b, 0, none⟩ = false) :
  Calls Tryz.prog 77 #[.pointer (some ⟨b, 0, none⟩)] w fun e w' => e = .returned (.tuple #[]) ∧ w' = w.setCell ⟨b, 0, none⟩ (.pointer (some ⟨b, 0, none⟩)) := by
 obtain ⟨j, hj, hjs⟩ := Option.map_eq_some_iff.1 sb_size
 go_enter Tryz.func77, Tryz.ntmps77
 go_wp2
 rw [Lib.run_to_unsafe w ⟨b, 0, none⟩ Tryz.underlying107 Tryz.underlying171 hj (by rw [hjs]; decide) hsh (Nat.zero_lt_succ 1)]
 simp only [Result.andThen]
 rw [Oper.upon_value]
 go_wp2
 rw [run_callFunc_extern Tryz.func112 (by kernel_rfl) (by kernel_rfl) (by kernel_rfl) (e := Extern.AbiNoEscape.same) (by kernel_rfl)]
 rw [Lib.run_noEscape]
 simp only [Result.andThen]
 rw [Oper.upon_value]
 go_wp2
 rw [Lib.run_from_unsafe w ⟨b, 0, none⟩ Tryz.underlying171 Tryz.underlying107 hj hsh sb_lies]
 simp only [Result.andThen]
 rw [Oper.upon_value]
 go_wp2
 go_end0
 exact ⟨rfl, rfl⟩
abbrev SB (B b : Nat) (bs : List Value) (w : World) : Prop := Lib.IsBuilder 110 5 B b bs w
abbrev SBU (B b : Nat) (bs : List Value) (w : World) : Prop := Lib.BuilderAt 110 5 B b (.pointer (some ⟨b, 0, none⟩)) bs w
theorem sb_check (B b : Nat) (bs : List Value) (w : World) (h : SB B b bs w) :
  Calls Tryz.prog 77 #[.pointer (some ⟨b, 0, none⟩)] w fun e w' => e = .returned (.tuple #[]) ∧ SBU B b bs w' ∧ Below B w w' := by
 rcases h with h | h
 ·refine (sb_fresh b w h.cell0 h.shape h.frozen0).mono ?_
  rintro e w' ⟨rfl, rfl⟩
  exact ⟨rfl, h.used _, (Below.refl B w).setCell (p := ⟨b, 0, none⟩) h.1 _⟩
 ·refine (sb_used b w h.cell0).mono ?_
  rintro e w' ⟨rfl, rfl⟩
  exact ⟨rfl, h, Below.refl B _⟩
set_option maxHeartbeats 1000000 in
set_option maxRecDepth 100000 in
theorem sb_write (B b : Nat) (bs : List Value) (s : ByteArray) (w : World) (h : SB B b bs w) (hlen : bs.length + s.size ≤ 140737488355328) (hBw : B ≤ w.heap.size) :
  Calls Tryz.prog 52 #[.pointer (some ⟨b, 0, none⟩), .string s] w fun e w' => e = .returned (.tuple #[.int .i64 s.size, .nilIface]) ∧ SBU B b (bs ++ Lib.strCells s) w' ∧ Below B w w' := by
 obtain ⟨i0, hi, hz0, hz1, hz2⟩ := info_parts sb_byte
 go_enter Tryz.func52, Tryz.ntmps52
 go_wp2_with fail
 refine (sb_check B b bs _ h).mono ?_
 rintro e w1 ⟨rfl, h1, hb1⟩
 obtain ⟨hB, v, hbk, hown, hne⟩ := h1
 have c0 : w1.cell? ⟨b, 0, none⟩ = some (.pointer (some ⟨b, 0, none⟩)) := by rw [Lib.cell_of_heap hbk]; rfl
 have c1 : w1.cell? ⟨b, 1, none⟩ = some v := by rw [Lib.cell_of_heap hbk]; rfl
 go_wp2_with (at_builtin; refine Lib.wpList_append_own_string _ rfl _ _ 108 9 rfl B 5 i0 Tryz.underlying108 Tryz.underlying9 hi hz0 hz1 hz2 _ _ _ rfl hown s rfl ?c3 ?c4 ?c5 ?_)
 case c3 => unfold maxLen; omega
 case c4 => omega
 case c5 => have := hb1.size; omega
 intro v' w2 hown' hgrow _
 have hlt : b < w1.heap.size := by
  rcases Nat.lt_or_ge b w1.heap.size with h' | h'
  ·exact h'
  ·simp [Array.getElem?_eq_none h'] at hbk
 have hb2 : w2.heap[b]? = some (.cells #[.pointer (some ⟨b, 0, none⟩), v] 110 (0, 0)) := by
  rw [hgrow.block b hlt (fun e => hne e.symm)]
  exact hbk
 have d0 : w2.cell? ⟨b, 0, none⟩ = some (.pointer (some ⟨b, 0, none⟩)) := by rw [Lib.cell_of_heap hb2]; rfl
 have d1 : w2.cell? ⟨b, 1, none⟩ = some v := by rw [Lib.cell_of_heap hb2]; rfl
 have f1 : w2.frozen? ⟨b, 1, none⟩ = false := Lib.frozen_of_heap hb2 1
 obtain ⟨ao, n', cap, rfl⟩ : ∃ ao n' cap, v' = .slice ao n' cap := by
  rcases hown'.2 with ⟨hv, _⟩ | ⟨g, cap, cur, hv, _⟩
  ·exact ⟨_, _, _, hv⟩
  ·exact ⟨_, _, _, hv⟩
 go_wp2
 go_ret2
 refine ⟨rfl, ?_, ?_⟩
 ·exact Lib.BuilderAt.put (T := 110) (e := 5) hB hb2 (bs' := bs ++ Lib.strCells s) (by simpa [Lib.strCells_length] using hown') (by decide)
 ·exact (hb1.grown hgrow (by have := hb1.size; omega) (fun k hk => (hown.lt k hk).1)).setCell (p := ⟨b, 1, none⟩) hB _
theorem SB.new (w : World) : SB w.heap.size w.heap.size [] (w.alloc (.cells #[.pointer none, .slice none 0 0] 110)) :=
 .inl ⟨Nat.le_refl _, _, blk_new w _, World.ownsRow_nil _ _ _ _, by simp [Value.ownBlock]⟩
end Go.Proofs.YtfangplfbbgphaaGreatDoor
namespace Go.Proofs.YtfangplfbbgphaaGreatDoor
open Go
set_option linter.unusedVariables false
def textL (n d : Int) : List UInt8 := if d = 1 then Lib.itoa n else Lib.itoa n ++ 47 :: Lib.itoa d
end Go.Proofs.YtfangplfbbgphaaGreatDoor
namespace Go.Proofs.YtfangplfbbgphaaGreatDoor
open Go.ChangeShapes Go.WideShapes Go.ChangeAt Go.RowKit
set_option linter.unusedVariables false
attribute [local go_sem ↓] Go.wp_at_zero Go.wp_at_succ
theorem var_keep {P : Program} {w w' : World} {n : String} {cs : Array Value} (h : w.var? P n = some cs) (hb : Below w.heap.size w w') : w'.var? P n = some cs := by
 unfold World.var? at h ⊢
 cases hg : P.globalNamed n with
 | none => rw [hg] at h; cases h
 | some g =>
  rw [hg] at h
  simp only [Option.bind_some] at h ⊢
  cases hh : w.heap[g]? with
  | none => rw [hh] at h; cases h
  | some o =>
   rw [hh] at h
   rw [blk_next hb hh]
   exact h
structure GL (w : World) : Prop where
 tab : Lib.TabIs Tryz.prog w "internal/strconv.uint64pow10" .u64 Lib.pow10Tab
 syn : ∃ tp p, w.var? Tryz.prog "strconv.ErrSyntax" = some #[.iface tp p]
 ran : ∃ tp p, w.var? Tryz.prog "strconv.ErrRange" = some #[.iface tp p]
 max : ∃ m, w.cell? ⟨2, 0, none⟩ = some (.int .i64 m)
theorem cell_keep {w w' : World} {a : Addr} {v : Value} (h : w.cell? a = some v) (hb : Below w.heap.size w w') : w'.cell? a = some v := by
 have : a.block < w.heap.size := by
  unfold World.cell? at h
  cases hh : w.heap[a.block]? with
  | none => rw [hh] at h; cases h
  | some o => exact blk_lt hh
 exact (hb.cell this).trans h
theorem GL.next {w w' : World} (h : GL w) (hb : Below w.heap.size w w') : GL w' :=
 ⟨var_keep h.tab hb, by obtain ⟨t, p, e⟩ := h.syn; exact ⟨t, p, var_keep e hb⟩, by obtain ⟨t, p, e⟩ := h.ran; exact ⟨t, p, var_keep e hb⟩, by obtain ⟨m, e⟩ := h.max; exact ⟨m, cell_keep e hb⟩⟩
structure GT (w : World) : Prop where
 tab : Lib.TabIs Tryz.prog w "internal/strconv.uint64pow10" .u64 Lib.pow10Tab
theorem GT.next {w w' : World} (h : GT w) (hb : Below w.heap.size w w') : GT w' := ⟨var_keep h.tab hb⟩
abbrev Str (l : List UInt8) : Value := .string ⟨l.toArray⟩
theorem fmt_calls (n : Int) (w : World) (h1 : -9223372036854775808 ≤ n) (h2 : n ≤ 9223372036854775807) (g : GT w) :
  Calls Tryz.prog 76 #[.int .i64 n, .int .i64 10] w fun e w' => e = .returned (Str (Lib.itoa n)) ∧ Below w.heap.size w w' :=
 (Tryz.strconv_FormatInt_10 n h1 h2 w g.tab).mono fun e w' ⟨h, k, os, hw⟩ => ⟨h, by rw [hw]; exact Lib.below_grow _ _ (Nat.le_refl _) k os⟩
theorem cat2 (a b : List UInt8) : (⟨a.toArray⟩ : ByteArray) ++ ⟨b.toArray⟩ = ⟨(a ++ b).toArray⟩ := by
 rw [ByteArray.ext_iff, ByteArray.data_append]
 simp
theorem cat3 (a b : List UInt8) : (⟨a.toArray⟩ : ByteArray) ++ ((⟨#[47]⟩ : ByteArray) ++ ⟨b.toArray⟩) = ⟨(a ++ 47 :: b).toArray⟩ := by
 rw [show (⟨#[47]⟩ : ByteArray) = ⟨[47].toArray⟩ from rfl, cat2, cat2]
 rfl
def txR (n d : Int) : List UInt8 := if errF n d = 0 then textL n d else []
set_option maxRecDepth 100000 in
set_option maxHeartbeats 4000000 in
theorem text_calls (n d : Int) (w : World) (g : GT w) :
  Calls Tryz.prog 51 #[Fv n d] w fun e w' => e = .returned (.tuple #[Str (txR n d), .int .i64 (errF n d)]) ∧ Below w.heap.size w w' := by
 have C1 := Lib.hid (fun W => check_calls n d W)
 have G := Lib.hid g
 clear g
 by_cases ck : errF n d = 0
 rotate_left
 ·have F : Hid (txR n d = []) := Lib.hid (by unfold txR; rw [if_neg ck])
  have ck' : (errF n d != 0) = true := by rw [bne_iff_ne]; exact ck
  generalize txR n d = res at *
  generalize errF n d = er at *
  clear ck
  go_enter Tryz.func51, Tryz.ntmps51
  go_wp2_with fail
  refine (C1.out _).mono ?_
  rintro e w1 ⟨rfl, hb⟩
  have NN := Lib.hid (Bgo (Bal (Below.refl _ _) _) hb)
  clear hb
  go_wp2_with fail
  go_ret2
  exact ⟨by rw [F.out]; rfl, NN.out⟩
 have v := errF_ok ck
 have F : Hid (txR n d = textL n d) := Lib.hid (by unfold txR; rw [if_pos ck])
 rw [ck] at C1 ⊢
 generalize txR n d = res at *
 have n1 := v.n1
 have n2 := v.n2
 have d1 := v.d1
 have d2 := v.d2
 have T1 := Lib.hid (fun W (h : GT W) => fmt_calls n W (by omega) (by omega) h)
 have T2 := Lib.hid (fun W (h : GT W) => fmt_calls d W (by omega) (by omega) h)
 have FT : Hid (textL n d = if d = 1 then Lib.itoa n else Lib.itoa n ++ 47 :: Lib.itoa d) := Lib.hid rfl
 have ln := Lib.itoa_length_le n (by omega) (by omega)
 have ld := Lib.itoa_length_le d (by omega) (by omega)
 generalize Lib.itoa n = tn at *
 generalize Lib.itoa d = td at *
 clear ck v
 by_cases hd : d = 1
 ·have F2 := Lib.hid (F.out.trans (FT.out.trans (if_pos hd)))
  clear F FT
  subst hd
  go_enter Tryz.func51, Tryz.ntmps51
  go_wp2_with fail
  refine (C1.out _).mono ?_
  rintro e w1 ⟨rfl, hb⟩
  have NN := Lib.hid (Bgo (Bal (Below.refl _ _) _) hb)
  have K := Lib.hid (blk_next hb (blk_new w (.cells #[.int .i64 n, .int .i64 1] 36)))
  replace G := Lib.hid (G.out.next NN.out)
  clear hb
  have a0 := blk_cell K.out 0 _ rfl
  have a1 := blk_cell K.out 1 _ rfl
  have al := blk_lt K.out
  go_wp2_with fail
  refine (T1.out _ G.out).mono ?_
  rintro e w2 ⟨rfl, hb⟩
  clear a0 a1 al
  replace NN := Lib.hid (Bgo NN.out hb)
  replace K := Lib.hid (blk_next hb K.out)
  replace G := Lib.hid (G.out.next hb)
  clear hb
  have a0 := blk_cell K.out 0 _ rfl
  have a1 := blk_cell K.out 1 _ rfl
  have al := blk_lt K.out
  go_wp2_with fail
  go_ret2
  exact ⟨by rw [F2.out]; rfl, NN.out⟩
 ·have F2 := Lib.hid (F.out.trans (FT.out.trans (if_neg hd)))
  clear F FT
  have hd' : (d != 1) = true := by rw [bne_iff_ne]; exact hd
  clear hd
  go_enter Tryz.func51, Tryz.ntmps51
  go_wp2_with fail
  refine (C1.out _).mono ?_
  rintro e w1 ⟨rfl, hb⟩
  have NN := Lib.hid (Bgo (Bal (Below.refl _ _) _) hb)
  have K := Lib.hid (blk_next hb (blk_new w (.cells #[.int .i64 n, .int .i64 d] 36)))
  replace G := Lib.hid (G.out.next NN.out)
  clear hb
  have a0 := blk_cell K.out 0 _ rfl
  have a1 := blk_cell K.out 1 _ rfl
  have al := blk_lt K.out
  go_wp2_with fail
  refine (T1.out _ G.out).mono ?_
  rintro e w2 ⟨rfl, hb⟩
  clear a0 a1 al
  replace NN := Lib.hid (Bgo NN.out hb)
  replace K := Lib.hid (blk_next hb K.out)
  replace G := Lib.hid (G.out.next hb)
  clear hb
  have a0 := blk_cell K.out 0 _ rfl
  have a1 := blk_cell K.out 1 _ rfl
  have al := blk_lt K.out
  go_wp2_with fail
  refine (T2.out _ G.out).mono ?_
  rintro e w3 ⟨rfl, hb⟩
  replace NN := Lib.hid (Bgo NN.out hb)
  clear hb a0 a1 al
  go_wp2_with fail
  rw [cat3 tn td, ← F2.out]
  go_ret2
  exact ⟨rfl, NN.out⟩
end Go.Proofs.YtfangplfbbgphaaGreatDoor
namespace Go.Proofs.YtfangplfbbgphaaGreatDoor
open Go.ChangeShapes Go.WideShapes Go.ChangeAt Go.RowKit
set_option linter.unusedVariables false
set_option maxRecDepth 100000
set_option linter.unusedSimpArgs false
attribute [local go_sem ↓] Go.wp_at_zero Go.wp_at_succ
theorem SB.next {B b : Nat} {bs : List Value} {W W' : World} (h : SB B b bs W) (hb : Below W.heap.size W W') : SB B b bs W' := by
 rcases h with ⟨h1, v, h2, h3, h4⟩ | ⟨h1, v, h2, h3, h4⟩
 ·exact .inl ⟨h1, v, blk_next hb h2, own_next hb h3, h4⟩
 ·exact .inr ⟨h1, v, blk_next hb h2, own_next hb h3, h4⟩
theorem SBU.sb {B b : Nat} {bs : List Value} {W : World} (h : SBU B b bs W) : SB B b bs W := .inr h
def lineL (s : St) : List UInt8 := s.nm.data.toList ++ [32] ++ textL s.sn s.sd ++ [32] ++ textL s.tn s.td ++ [10]
def textA (l : List St) : List UInt8 := l.flatMap lineL
def txA (l : List St) : List UInt8 := if stsE l = 0 then textA l else []
theorem line_cells (nm : ByteArray) (a b : List UInt8) : Lib.strCells (nm ++ ⟨#[32]⟩ ++ ⟨a.toArray⟩ ++ ⟨#[32]⟩ ++ ⟨b.toArray⟩ ++ ⟨#[10]⟩) = Lib.byteCells (nm.data.toList ++ [32] ++ a ++ [32] ++ b ++ [10]) := by
 rw [Lib.strCells_eq]
 simp [ByteArray.data_append]
theorem line_size (nm : ByteArray) (a b : List UInt8) : (nm ++ ⟨#[32]⟩ ++ ⟨a.toArray⟩ ++ ⟨#[32]⟩ ++ ⟨b.toArray⟩ ++ ⟨#[10]⟩ : ByteArray).size = nm.size + a.length + b.length + 3 := by
 simp only [ByteArray.size_append]
 show nm.size + 1 + a.length + 1 + b.length + 1 = _
 omega
theorem bytes_app (a b : List UInt8) : Lib.byteCells (a ++ b) = Lib.byteCells a ++ Lib.byteCells b := by unfold Lib.byteCells; rw [List.map_append]
theorem textL_len {n d : Int} (h : prmB n d = true) : (textL n d).length ≤ 60 := by
 obtain ⟨h1, h2, h3, h4, h5⟩ := prm_facts h
 have ln := Lib.itoa_length_le n (by omega) (by omega)
 have ld := Lib.itoa_length_le d (by omega) (by omega)
 unfold textL
 split
 ·omega
 ·rw [List.length_append, List.length_cons]; omega
theorem txR_ok {n d : Int} (h : prmB n d = true) : errF n d = 0 ∧ txR n d = textL n d := by
 have h1 : errF n d = 0 := by unfold errF; rw [(prm_facts h).1]; rfl
 exact ⟨h1, by unfold txR; rw [if_pos h1]⟩
theorem valS_size {s : St} (h : valS s = true) : s.nm.size ≤ 40 := by
 unfold valS at h
 simp only [Bool.and_eq_true] at h
 have h1 := h.1
 unfold namB at h1
 rw [Bool.and_eq_true] at h1
 have := (of_decide_eq_true h1.1).2
 show s.nm.data.size ≤ 40
 simpa using this
theorem text_ok {n d : Int} (h : prmB n d = true) (W : World) (g : GT W) : Calls Tryz.prog 51 #[Fv n d] W fun e w' => e = .returned (.tuple #[Str (textL n d), .int .i64 0]) ∧ Below W.heap.size W w' := by
 have := text_calls n d W g
 rw [(txR_ok h).1, (txR_ok h).2] at this
 exact this
theorem textA_len {l : List St} (h : ∀ x ∈ l, valS x = true) : (textA l).length ≤ l.length * 200 := by
 unfold textA
 induction l with
 | nil => simp
 | cons x l ih =>
  rw [List.flatMap_cons, List.length_append, List.length_cons]
  have h1 := ih (fun y hy => h y (List.mem_cons_of_mem _ hy))
  have hx := h x (List.mem_cons_self ..)
  have h2 := valS_size hx
  have h3 := textL_len (plB_prm (valS_pl hx)).1
  have h4 := textL_len (plB_prm (valS_pl hx)).2
  have h5 : (lineL x).length = x.nm.size + (textL x.sn x.sd).length + (textL x.tn x.td).length + 3 := by
   unfold lineL
   simp only [List.length_append, List.length_cons, List.length_nil, Array.length_toList]
   show x.nm.size + 1 + _ + 1 + _ + 1 = _
   omega
  omega
set_option maxRecDepth 100000 in
set_option maxHeartbeats 8000000 in
theorem atext_calls {a : Option Addr} {c : Nat} {l : List St} {w : World} (hl : RSt w a l) (hc : l.length ≤ c) (hc' : c ≤ 9223372036854775807) (hn : ∀ x ∈ l, x.nm.size ≤ 9223372036854775807) (g : GT w) : Calls Tryz.prog 18 #[.slice a l.length c] w fun e w' =>
  e = .returned (.tuple #[Str (txA l), .int .i64 (stsE l)]) ∧ Below w.heap.size w w' := by
 have NN := Lib.hid (Below.refl w.heap.size w)
 have HL := Lib.hid hl
 have GG := Lib.hid g
 have SC := Lib.hid (fun (W : World) (hb : Below w.heap.size w W) => stations_calls a c l W (hl.next hb) hc hc' hn)
 have VV := Lib.hid (fun (h : stsE l = 0) => stsE_ok h)
 have TX : Hid (txA l = if stsE l = 0 then textA l else []) := Lib.hid rfl
 obtain ⟨pe, hpe⟩ : ∃ pe, stsE l = pe := ⟨_, rfl⟩
 simp only [hpe] at SC VV TX ⊢
 generalize txA l = tx at *
 clear hl hn g hpe
 go_enter Tryz.func18, Tryz.ntmps18
 go_wp2_with fail
 refine (SC.out _ NN.out).mono ?_
 rintro e w1 ⟨rfl, hb⟩
 replace NN := Lib.hid (Bgo NN.out hb)
 clear hb
 by_cases he : pe ≠ 0
 ·have q1 : (pe != 0) = true := by simpa using he
  have HX : Hid (tx = []) := Lib.hid (by rw [TX.out, if_neg he])
  clear he VV TX SC
  go_wp2_with fail
  go_ret2
  exact ⟨by rw [HX.out]; rfl, NN.out⟩
 have he0 : pe = 0 := by omega
 subst he0
 clear he SC
 have HX : Hid (tx = textA l) := Lib.hid (by rw [TX.out, if_pos rfl])
 obtain ⟨h8, hv⟩ := VV.out rfl
 have HV := Lib.hid hv
 have H8 := Lib.hid h8
 clear VV TX hv h8
 go_wp2_with fail
 have LB : Hid (w.heap.size ≤ w1.heap.size) := Lib.hid NN.out.size
 have SX : Hid (SB w1.heap.size w1.heap.size (Lib.byteCells (textA (l.take 0))) (w1.alloc (.cells #[.pointer none, .slice none 0 0] 110))) := Lib.hid (SB.new w1)
 replace NN := Lib.hid (Bal NN.out (.cells #[.pointer none, .slice none 0 0] 110))
 have LG : Hid (w1.heap.size ≤ (w1.alloc (.cells #[.pointer none, .slice none 0 0] 110)).heap.size) := Lib.hid (by simp)
 generalize w1.alloc (.cells #[.pointer none, .slice none 0 0] 110) = W0 at *
 generalize w1.heap.size = gb at *
 go_loopw [18] (fun i wr => ∃ k : Nat, k ≤ l.length ∧ i = .int .i64 k ∧ Hid (Below w.heap.size w wr) ∧ Hid (gb ≤ wr.heap.size) ∧ Hid (SB gb gb (Lib.byteCells (textA (l.take k))) wr)) (fun i _ => l.length - (intOf i).toNat)
 case atStart => exact ⟨0, by omega, rfl, NN, LG, SX⟩
 case round =>
  clear NN LG SX W0
  obtain ⟨k, hk, rfl, NN, LG, SX⟩ := hrel
  by_cases hlt : k < l.length
  ·obtain ⟨x, hx⟩ := get_some hlt
   obtain ⟨b, off, e, hb, hc0⟩ := Rd.rec_ HL.out (Nat.le_refl _) st5_len hx
   subst e
   have c0 := (NN.out.cell (p := ⟨b, off + k * 5, none⟩) hb).trans (hc0 0 _ rfl)
   have c1 := (NN.out.cell (p := ⟨b, off + k * 5 + 1, none⟩) hb).trans (hc0 1 _ rfl)
   have c2 := (NN.out.cell (p := ⟨b, off + k * 5 + 2, none⟩) hb).trans (hc0 2 _ rfl)
   have c3 := (NN.out.cell (p := ⟨b, off + k * 5 + 3, none⟩) hb).trans (hc0 3 _ rfl)
   have c4 := (NN.out.cell (p := ⟨b, off + k * 5 + 4, none⟩) hb).trans (hc0 4 _ rfl)
   have hbr : b < wr.heap.size := Nat.lt_of_lt_of_le hb NN.out.size
   have kk : k + 1 ≤ l.length := hlt
   have hm := List.mem_of_getElem? hx
   have hvx := HV.out x hm
   have P1 := Lib.hid (plB_prm (valS_pl hvx)).1
   have P2 := Lib.hid (plB_prm (valS_pl hvx)).2
   have hsz := valS_size hvx
   have t1 := textL_len P1.out
   have t2 := textL_len P2.out
   have T1 := Lib.hid (fun W g => text_ok P1.out W g)
   have T2 := Lib.hid (fun W g => text_ok P2.out W g)
   have LE : Hid (textA (l.take (k + 1)) = textA (l.take k) ++ lineL x) := Lib.hid (by
     unfold textA
     rw [List.take_succ_eq_append_getElem hlt, List.flatMap_append]
     have e : l[k] = x := by rw [List.getElem?_eq_getElem hlt] at hx; exact Option.some.inj hx
     rw [e]; simp)
   have LN : Hid ((textA (l.take k)).length ≤ 1600) := Lib.hid (by
     have h1 := textA_len (l := l.take k) (fun y hy => HV.out y (List.mem_of_mem_take hy))
     have h2 : (l.take k).length ≤ 8 := by rw [List.length_take]; have := H8.out; omega
     omega)
   have LX : Hid (lineL x = x.nm.data.toList ++ [32] ++ textL x.sn x.sd ++ [32] ++ textL x.tn x.td ++ [10]) := Lib.hid rfl
   clear hc0 hx hb hm hvx P1 P2
   generalize textL x.sn x.sd = ta at *
   generalize textL x.tn x.td = tb at *
   go_wp2_with fail
   clear c0 c1 c2 c3 c4 hbr
   have HB := Lib.hid (Bal (Below.refl wr.heap.size wr) (.cells #[.string x.nm, .int .i64 x.sn, .int .i64 x.sd, .int .i64 x.tn, .int .i64 x.td] 69))
   have X : Hid ((wr.alloc (.cells #[.string x.nm, .int .i64 x.sn, .int .i64 x.sd, .int .i64 x.tn, .int .i64 x.td] 69)).heap[wr.heap.size]? = some (.cells #[.string x.nm, .int .i64 x.sn, .int .i64 x.sd, .int .i64 x.tn, .int .i64 x.td] 69)) := Lib.hid (blk_new wr _)
   replace NN := Lib.hid (Bgo NN.out HB.out)
   replace LG := Lib.hid (Nat.le_trans LG.out HB.out.size)
   replace SX := Lib.hid (SB.next SX.out HB.out)
   clear HB
   refine (T1.out _ (GG.out.next NN.out)).mono ?_
   rintro e w2 ⟨rfl, hb⟩
   replace NN := Lib.hid (Bgo NN.out hb)
   replace LG := Lib.hid (Nat.le_trans LG.out hb.size)
   replace SX := Lib.hid (SB.next SX.out hb)
   replace X := Lib.hid (blk_next hb X.out)
   clear hb
   have c_X_0 := blk_cell X.out 0 _ rfl
   have f_X_0 := blk_frozen X.out 0
   have c_X_1 := blk_cell X.out 1 _ rfl
   have f_X_1 := blk_frozen X.out 1
   have c_X_2 := blk_cell X.out 2 _ rfl
   have f_X_2 := blk_frozen X.out 2
   have c_X_3 := blk_cell X.out 3 _ rfl
   have f_X_3 := blk_frozen X.out 3
   have c_X_4 := blk_cell X.out 4 _ rfl
   have f_X_4 := blk_frozen X.out 4
   have l_X := blk_lt X.out
   go_wp2_with fail
   clear c_X_0 f_X_0 c_X_1 f_X_1 c_X_2 f_X_2 c_X_3 f_X_3 c_X_4 f_X_4 l_X
   refine (T2.out _ (GG.out.next NN.out)).mono ?_
   rintro e w3 ⟨rfl, hb⟩
   replace NN := Lib.hid (Bgo NN.out hb)
   replace LG := Lib.hid (Nat.le_trans LG.out hb.size)
   replace SX := Lib.hid (SB.next SX.out hb)
   replace X := Lib.hid (blk_next hb X.out)
   clear hb
   have c_X_0 := blk_cell X.out 0 _ rfl
   have f_X_0 := blk_frozen X.out 0
   have c_X_1 := blk_cell X.out 1 _ rfl
   have f_X_1 := blk_frozen X.out 1
   have c_X_2 := blk_cell X.out 2 _ rfl
   have f_X_2 := blk_frozen X.out 2
   have c_X_3 := blk_cell X.out 3 _ rfl
   have f_X_3 := blk_frozen X.out 3
   have c_X_4 := blk_cell X.out 4 _ rfl
   have f_X_4 := blk_frozen X.out 4
   have l_X := blk_lt X.out
   go_wp2_with fail
   clear c_X_0 f_X_0 c_X_1 f_X_1 c_X_2 f_X_2 c_X_3 f_X_3 c_X_4 f_X_4 l_X
   refine (sb_write gb gb _ _ _ SX.out ?_ LG.out).mono ?_
   ·have h1 := LN.out
    have h2 := line_size x.nm ta tb
    simp only [Lib.byteCells, List.length_map]
    omega
   rintro e w9 ⟨rfl, hs9, hb9⟩
   have S9 := Lib.hid hs9
   have N9 := Lib.hid (NN.out.trans (hb9.mono LB.out))
   have L9 := Lib.hid (Nat.le_trans LG.out hb9.size)
   clear hs9 hb9 SX NN LG X
   go_wp2_with fail
   go_roundw
   case rel => exact ⟨k + 1, kk, by go_num, N9, L9, Lib.hid (by rw [LE.out, bytes_app, LX.out, ← line_cells]; exact S9.out.sb)⟩
   case measure => simp [intOf]; omega
  ·obtain rfl : k = l.length := by omega
   rw [List.take_length] at SX
   go_wp2_with fail
   refine (Tryz.Builder_String_any gb gb _ _ SX.out LG.out).mono ?_
   rintro e w9 ⟨rfl, hb9⟩
   have N9 := Lib.hid (NN.out.trans (hb9.mono LB.out))
   clear hb9
   go_wp2_with fail
   go_ret2
   exact ⟨by rw [HX.out]; rfl, N9.out⟩
end Go.Proofs.YtfangplfbbgphaaGreatDoor
namespace Go.Proofs.YtfangplfbbgphaaGreatDoor
open Go.ChangeShapes Go.WideShapes Go.ChangeAt Go.RowKit
set_option linter.unusedVariables false
set_option maxRecDepth 100000
set_option linter.unusedSimpArgs false
attribute [local go_sem ↓] Go.wp_at_zero Go.wp_at_succ
def five5 : List St := [⟨⟨#[97]⟩, 0, 1, 0, 1⟩, ⟨⟨#[98]⟩, 0, 1, 1, 1⟩, ⟨⟨#[99]⟩, 0, 1, -1, 1⟩, ⟨⟨#[100]⟩, 1, 1, 0, 1⟩, ⟨⟨#[101]⟩, -1, 1, 0, 1⟩]
theorem five_pl : plE 5 5 five5 = 0 := by kernel_rfl
theorem five_vec : five5.map (plV 5 5) = [⟨5, 1, 0, 1, 0, 1⟩, ⟨0, 1, 5, 1, 0, 1⟩, ⟨0, 1, -5, 1, 0, 1⟩, ⟨0, 1, 0, 1, 5, 1⟩, ⟨0, 1, 0, 1, -5, 1⟩] := by kernel_rfl
theorem five_li : liE 5 5 five5 0 1 = 0 ∧ liV 5 5 five5 0 1 = ⟨-5, 1, 5, 1, 0, 1⟩ := by constructor <;> kernel_rfl
theorem five_tx : stsE (five5.take 2) = 0 ∧ txA (five5.take 2) = [97, 32, 48, 32, 48, 10, 98, 32, 48, 32, 49, 10] := by constructor <;> kernel_rfl
def cls8 : List Cl := [(⟨-5, 1, 5, 1, 0, 1⟩, [(0, 1)]), (⟨-5, 1, -5, 1, 0, 1⟩, [(0, 2)]), (⟨-5, 1, 0, 1, 5, 1⟩, [(0, 3)]), (⟨-5, 1, 0, 1, -5, 1⟩, [(0, 4)]), (⟨0, 1, -10, 1, 0, 1⟩, [(1, 2)]), (⟨0, 1, -5, 1, 5, 1⟩, [(1, 3), (2, 4)]), (⟨0, 1, -5, 1, -5, 1⟩, [(1, 4), (2, 3)]), (⟨0, 1, 0, 1, -10, 1⟩, [(3, 4)])]
theorem five_cls : clsL 5 5 five5 = cls8 := by kernel_rfl
theorem lglobe_calls (w : World) : Calls Tryz.prog 29 #[] w fun e w' => e = .returned (Gv 5 5) ∧ Below w.heap.size w w' := by
 go_enter Tryz.func29, Tryz.ntmps29
 go_wp2
 exact bodyPost_ret (v := Gv 5 5) (by simp [results, Tryz.results29, go_sem]) rfl ⟨rfl, Bal (Below.refl _ _) _⟩
set_option maxRecDepth 100000 in
set_option maxHeartbeats 8000000 in
theorem lof_calls (x y z : Int) (w : World) : Calls Tryz.prog 15 #[.int .i64 x, .int .i64 y, .int .i64 z] w fun e w' => e = .returned (Vv ⟨x, 1, y, 1, z, 1⟩) ∧ Below w.heap.size w w' := by
 have NN := Lib.hid (Below.refl w.heap.size w)
 go_enter Tryz.func15, Tryz.ntmps15
 go_wp2_with fail
 have R : Hid ((w.alloc (.cells #[.int .i64 0, .int .i64 0, .int .i64 0, .int .i64 0, .int .i64 0, .int .i64 0] 38)).heap[w.heap.size]? = some (.cells #[.int .i64 0, .int .i64 0, .int .i64 0, .int .i64 0, .int .i64 0, .int .i64 0] 38)) := Lib.hid (blk_new w _)
 replace NN : Hid (Below w.heap.size w (w.alloc (.cells #[.int .i64 0, .int .i64 0, .int .i64 0, .int .i64 0, .int .i64 0, .int .i64 0] 38))) := Lib.hid (Bal NN.out _)
 generalize (w.alloc (.cells #[.int .i64 0, .int .i64 0, .int .i64 0, .int .i64 0, .int .i64 0, .int .i64 0] 38)) = W1 at *
 refine (refOf_calls _ _).mono ?_
 rintro e w2 ⟨rfl, hb⟩
 replace NN := Lib.hid (Bgo NN.out hb)
 replace R := Lib.hid (blk_next hb R.out)
 clear hb
 go_wp2_with fail
 refine (refOf_calls _ _).mono ?_
 rintro e w3 ⟨rfl, hb⟩
 replace NN := Lib.hid (Bgo NN.out hb)
 replace R := Lib.hid (blk_next hb R.out)
 clear hb
 go_wp2_with fail
 refine (refOf_calls _ _).mono ?_
 rintro e w4 ⟨rfl, hb⟩
 replace NN := Lib.hid (Bgo NN.out hb)
 replace R := Lib.hid (blk_next hb R.out)
 clear hb
 have c_R_0 := blk_cell R.out 0 _ rfl
 have f_R_0 := blk_frozen R.out 0
 have c_R_1 := blk_cell R.out 1 _ rfl
 have f_R_1 := blk_frozen R.out 1
 have c_R_2 := blk_cell R.out 2 _ rfl
 have f_R_2 := blk_frozen R.out 2
 have c_R_3 := blk_cell R.out 3 _ rfl
 have f_R_3 := blk_frozen R.out 3
 have c_R_4 := blk_cell R.out 4 _ rfl
 have f_R_4 := blk_frozen R.out 4
 have c_R_5 := blk_cell R.out 5 _ rfl
 have f_R_5 := blk_frozen R.out 5
 have l_R := blk_lt R.out
 go_wp2_with fail
 clear c_R_0 f_R_0 c_R_1 f_R_1 c_R_2 f_R_2 c_R_3 f_R_3 c_R_4 f_R_4 c_R_5 f_R_5 l_R
 replace R : Hid (((((((w4.setCell ⟨w.heap.size, 0, none⟩ (.int .i64 x)).setCell ⟨w.heap.size, 1, none⟩ (.int .i64 1)).setCell ⟨w.heap.size, 2, none⟩ (.int .i64 y)).setCell ⟨w.heap.size, 3, none⟩ (.int .i64 1)).setCell ⟨w.heap.size, 4, none⟩ (.int .i64 z)).setCell ⟨w.heap.size, 5, none⟩ (.int .i64 1)).heap[w.heap.size]? = some (.cells #[.int .i64 x, .int .i64 1, .int .i64 y, .int .i64 1, .int .i64 z, .int .i64 1] 38)) := Lib.hid (blk_set (blk_set (blk_set (blk_set (blk_set (blk_set (R.out) 0 (.int .i64 x)) 1 (.int .i64 1)) 2 (.int .i64 y)) 3 (.int .i64 1)) 4 (.int .i64 z)) 5 (.int .i64 1))
 replace NN := Lib.hid (Bset1 (Bset1 (Bset1 (Bset1 (Bset1 (Bset1 (NN.out) (show w.heap.size ≤ w.heap.size by omega) 0 (.int .i64 x)) (show w.heap.size ≤ w.heap.size by omega) 1 (.int .i64 1)) (show w.heap.size ≤ w.heap.size by omega) 2 (.int .i64 y)) (show w.heap.size ≤ w.heap.size by omega) 3 (.int .i64 1)) (show w.heap.size ≤ w.heap.size by omega) 4 (.int .i64 z)) (show w.heap.size ≤ w.heap.size by omega) 5 (.int .i64 1))
 generalize ((((((w4.setCell ⟨w.heap.size, 0, none⟩ (.int .i64 x)).setCell ⟨w.heap.size, 1, none⟩ (.int .i64 1)).setCell ⟨w.heap.size, 2, none⟩ (.int .i64 y)).setCell ⟨w.heap.size, 3, none⟩ (.int .i64 1)).setCell ⟨w.heap.size, 4, none⟩ (.int .i64 z)).setCell ⟨w.heap.size, 5, none⟩ (.int .i64 1)) = W5 at *
 have c_R_0 := blk_cell R.out 0 _ rfl
 have f_R_0 := blk_frozen R.out 0
 have c_R_1 := blk_cell R.out 1 _ rfl
 have f_R_1 := blk_frozen R.out 1
 have c_R_2 := blk_cell R.out 2 _ rfl
 have f_R_2 := blk_frozen R.out 2
 have c_R_3 := blk_cell R.out 3 _ rfl
 have f_R_3 := blk_frozen R.out 3
 have c_R_4 := blk_cell R.out 4 _ rfl
 have f_R_4 := blk_frozen R.out 4
 have c_R_5 := blk_cell R.out 5 _ rfl
 have f_R_5 := blk_frozen R.out 5
 have l_R := blk_lt R.out
 exact bodyPost_ret (v := Vv ⟨x, 1, y, 1, z, 1⟩) (by simp [results, Tryz.results15, go_sem, c_R_0, c_R_1, c_R_2, c_R_3, c_R_4, c_R_5]) rfl ⟨rfl, NN.out⟩
set_option maxRecDepth 100000 in
set_option maxHeartbeats 8000000 in
theorem lsite_calls (nm : ByteArray) (x y : Int) (w : World) : Calls Tryz.prog 30 #[.string nm, .int .i64 x, .int .i64 y] w fun e w' => e = .returned (Sv ⟨nm, x, 1, y, 1⟩) ∧ Below w.heap.size w w' := by
 have NN := Lib.hid (Below.refl w.heap.size w)
 go_enter Tryz.func30, Tryz.ntmps30
 go_wp2_with fail
 have R : Hid ((w.alloc (.cells #[.string ⟨#[]⟩, .int .i64 0, .int .i64 0, .int .i64 0, .int .i64 0] 69)).heap[w.heap.size]? = some (.cells #[.string ⟨#[]⟩, .int .i64 0, .int .i64 0, .int .i64 0, .int .i64 0] 69)) := Lib.hid (blk_new w _)
 replace NN : Hid (Below w.heap.size w (w.alloc (.cells #[.string ⟨#[]⟩, .int .i64 0, .int .i64 0, .int .i64 0, .int .i64 0] 69))) := Lib.hid (Bal NN.out _)
 generalize (w.alloc (.cells #[.string ⟨#[]⟩, .int .i64 0, .int .i64 0, .int .i64 0, .int .i64 0] 69)) = W1 at *
 refine (refOf_calls _ _).mono ?_
 rintro e w2 ⟨rfl, hb⟩
 replace NN := Lib.hid (Bgo NN.out hb)
 replace R := Lib.hid (blk_next hb R.out)
 clear hb
 go_wp2_with fail
 refine (refOf_calls _ _).mono ?_
 rintro e w3 ⟨rfl, hb⟩
 replace NN := Lib.hid (Bgo NN.out hb)
 replace R := Lib.hid (blk_next hb R.out)
 clear hb
 have c_R_0 := blk_cell R.out 0 _ rfl
 have f_R_0 := blk_frozen R.out 0
 have c_R_1 := blk_cell R.out 1 _ rfl
 have f_R_1 := blk_frozen R.out 1
 have c_R_2 := blk_cell R.out 2 _ rfl
 have f_R_2 := blk_frozen R.out 2
 have c_R_3 := blk_cell R.out 3 _ rfl
 have f_R_3 := blk_frozen R.out 3
 have c_R_4 := blk_cell R.out 4 _ rfl
 have f_R_4 := blk_frozen R.out 4
 have l_R := blk_lt R.out
 go_wp2_with fail
 clear c_R_0 f_R_0 c_R_1 f_R_1 c_R_2 f_R_2 c_R_3 f_R_3 c_R_4 f_R_4 l_R
 replace R : Hid ((((((w3.setCell ⟨w.heap.size, 0, none⟩ (.string nm)).setCell ⟨w.heap.size, 1, none⟩ (.int .i64 x)).setCell ⟨w.heap.size, 2, none⟩ (.int .i64 1)).setCell ⟨w.heap.size, 3, none⟩ (.int .i64 y)).setCell ⟨w.heap.size, 4, none⟩ (.int .i64 1)).heap[w.heap.size]? = some (.cells #[.string nm, .int .i64 x, .int .i64 1, .int .i64 y, .int .i64 1] 69)) := Lib.hid (blk_set (blk_set (blk_set (blk_set (blk_set (R.out) 0 (.string nm)) 1 (.int .i64 x)) 2 (.int .i64 1)) 3 (.int .i64 y)) 4 (.int .i64 1))
 replace NN := Lib.hid (Bset1 (Bset1 (Bset1 (Bset1 (Bset1 (NN.out) (show w.heap.size ≤ w.heap.size by omega) 0 (.string nm)) (show w.heap.size ≤ w.heap.size by omega) 1 (.int .i64 x)) (show w.heap.size ≤ w.heap.size by omega) 2 (.int .i64 1)) (show w.heap.size ≤ w.heap.size by omega) 3 (.int .i64 y)) (show w.heap.size ≤ w.heap.size by omega) 4 (.int .i64 1))
 generalize (((((w3.setCell ⟨w.heap.size, 0, none⟩ (.string nm)).setCell ⟨w.heap.size, 1, none⟩ (.int .i64 x)).setCell ⟨w.heap.size, 2, none⟩ (.int .i64 1)).setCell ⟨w.heap.size, 3, none⟩ (.int .i64 y)).setCell ⟨w.heap.size, 4, none⟩ (.int .i64 1)) = W4 at *
 have c_R_0 := blk_cell R.out 0 _ rfl
 have f_R_0 := blk_frozen R.out 0
 have c_R_1 := blk_cell R.out 1 _ rfl
 have f_R_1 := blk_frozen R.out 1
 have c_R_2 := blk_cell R.out 2 _ rfl
 have f_R_2 := blk_frozen R.out 2
 have c_R_3 := blk_cell R.out 3 _ rfl
 have f_R_3 := blk_frozen R.out 3
 have c_R_4 := blk_cell R.out 4 _ rfl
 have f_R_4 := blk_frozen R.out 4
 have l_R := blk_lt R.out
 exact bodyPost_ret (v := Sv ⟨nm, x, 1, y, 1⟩) (by simp [results, Tryz.results30, go_sem, c_R_0, c_R_1, c_R_2, c_R_3, c_R_4]) rfl ⟨rfl, NN.out⟩
set_option maxRecDepth 100000 in
set_option maxHeartbeats 8000000 in
theorem lfive_calls (w : World) : Calls Tryz.prog 31 #[] w fun e w' => ∃ g, e = .returned (.slice (some ⟨g, 0, none⟩) 5 5) ∧ w.heap.size ≤ g ∧ w'.heap[g]? = some (.cells (five5.flatMap st5).toArray 69) ∧ Below w.heap.size w w' := by
 have NN := Lib.hid (Below.refl w.heap.size w)
 go_enter Tryz.func31, Tryz.ntmps31
 go_wp2_with fail
 refine (lsite_calls _ _ _ _).mono ?_
 rintro e w1 ⟨rfl, hb⟩
 replace NN := Lib.hid (Bgo NN.out hb)
 clear hb
 go_wp2_with fail
 refine (lsite_calls _ _ _ _).mono ?_
 rintro e w2 ⟨rfl, hb⟩
 replace NN := Lib.hid (Bgo NN.out hb)
 clear hb
 go_wp2_with fail
 refine (lsite_calls _ _ _ _).mono ?_
 rintro e w3 ⟨rfl, hb⟩
 replace NN := Lib.hid (Bgo NN.out hb)
 clear hb
 go_wp2_with fail
 refine (lsite_calls _ _ _ _).mono ?_
 rintro e w4 ⟨rfl, hb⟩
 replace NN := Lib.hid (Bgo NN.out hb)
 clear hb
 go_wp2_with fail
 refine (lsite_calls _ _ _ _).mono ?_
 rintro e w5 ⟨rfl, hb⟩
 replace NN := Lib.hid (Bgo NN.out hb)
 clear hb
 go_wp2_with fail
 exact bodyPost_ret (v := .slice (some ⟨w5.heap.size, 0, none⟩) 5 5) (by simp [results, Tryz.results31, go_sem]) rfl ⟨_, rfl, NN.out.size, blk_new w5 _, Bal NN.out _⟩
end Go.Proofs.YtfangplfbbgphaaGreatDoor
