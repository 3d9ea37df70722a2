/- Rows whose records change one after another; a plan that is moved has the same breaches. -/
import Derived.Test.YthmfjlphmamegaaPl8
namespace Go.Proofs.Ythmfjlphmamegaa
open Go.ChangeShapes Go.WideShapes Go.ChangeAt Go.RowKit
set_option linter.unusedVariables false

theorem fm_set {α : Type} (f : α → List Value) (sz : Nat) (hf : ∀ x, (f x).length = sz) (l : List α) (i j : Nat) (hi : i < l.length) (hj : j < sz) (v : Value) (x : α) (hx : f x = (f l[i]).set j v) : (l.flatMap f).set (i * sz + j) v = (l.set i x).flatMap f := by
  induction l generalizing i with
  | nil => simp at hi
  | cons y l ih =>
    cases i with
    | zero =>
      rw [List.flatMap_cons, Nat.zero_mul, Nat.zero_add, List.set_append_left _ _ (by rw [hf]; exact hj), List.set_cons_zero, List.flatMap_cons, hx]; rfl
    | succ i =>
      rw [List.flatMap_cons, List.set_append_right _ _ (by rw [hf, Nat.succ_mul]; omega), hf, List.set_cons_succ, List.flatMap_cons]
      have e : (i + 1) * sz + j - sz = i * sz + j := by rw [Nat.succ_mul]; omega
      rw [e, ih i (by simpa using hi) hx]
/- the first k records are turned by f -/
def upd {α : Type} (f : α → α) (l : List α) (k : Nat) : List α := (l.take k).map f ++ l.drop k
theorem upd_zero {α : Type} (f : α → α) (l : List α) : upd f l 0 = l := by simp [upd]
theorem upd_all {α : Type} (f : α → α) (l : List α) : upd f l l.length = l.map f := by simp [upd]
theorem upd_len {α : Type} (f : α → α) (l : List α) (k : Nat) : (upd f l k).length = l.length := by simp [upd]; omega
theorem upd_get {α : Type} (f : α → α) (l : List α) (k i : Nat) : (upd f l k)[i]? = if i < k then l[i]?.map f else l[i]? := by
  induction l generalizing k i with
  | nil => simp [upd]
  | cons x l ih =>
    cases k with
    | zero => simp [upd]
    | succ k =>
      have e : upd f (x :: l) (k + 1) = f x :: upd f l k := by simp [upd]
      rw [e]
      cases i with
      | zero => simp
      | succ i =>
        rw [List.getElem?_cons_succ, List.getElem?_cons_succ, ih]
        simp
theorem upd_at {α : Type} (f : α → α) (l : List α) (k : Nat) (h : k < l.length) : (upd f l k)[k]'(by rw [upd_len]; exact h) = l[k] := by
  have := upd_get f l k k
  rw [if_neg (by omega), List.getElem?_eq_getElem (by rw [upd_len]; exact h), List.getElem?_eq_getElem h] at this
  exact Option.some.inj this
theorem upd_succ {α : Type} (f : α → α) (l : List α) (k : Nat) (h : k < l.length) : upd f l (k + 1) = (upd f l k).set k (f l[k]) := by
  apply List.ext_getElem?
  intro i
  rw [upd_get, List.getElem?_set, upd_get, upd_len]
  by_cases e : k = i
  · subst e
    rw [if_pos rfl, if_pos h, if_pos (by omega), List.getElem?_eq_getElem h]; rfl
  · rw [if_neg e]
    by_cases e2 : i < k
    · rw [if_pos e2, if_pos (by omega)]
    · rw [if_neg e2, if_neg (by omega)]
theorem flatMap_congr' {α β : Type} {l : List α} {f g : α → List β} (h : ∀ x ∈ l, f x = g x) : l.flatMap f = l.flatMap g := by
  induction l with
  | nil => rfl
  | cons x l ih => rw [List.flatMap_cons, List.flatMap_cons, h x (by simp), ih (fun y hy => h y (by simp [hy]))]
def sh (d : Int) (s : Slt) : Slt := {s with fr := s.fr + d, to := s.to + d}
def shr (d : Int) (r : Rul) : Rul := if r.kind = 1 then {r with low := r.low + d, high := r.high + d} else if r.kind = 5 then {r with high := r.high + d} else r
theorem findN_sh (d : Int) (l : List Slt) (nm : ByteArray) : findN (l.map (sh d)) nm = findN l nm := by
  induction l with
  | nil => rfl
  | cons x l ih => rw [List.map_cons, findN_cons, findN_cons, ih]; rfl
theorem findI_sh (d : Int) (l : List Slt) (nm : ByteArray) : findI (l.map (sh d)) nm = findI l nm := by
  unfold findI; rw [findN_sh, List.length_map]
theorem meet_sh (d : Int) (s t : Slt) (rest : Int) : meetB (sh d s) (sh d t) rest = meetB s t rest := by
  unfold meetB sh
  simp only
  have e1 : (t.fr + d < s.to + d + rest) ↔ (t.fr < s.to + rest) := by omega
  have e2 : (s.fr + d < t.to + d + rest) ↔ (s.fr < t.to + rest) := by omega
  simp only [e1, e2]
theorem getD_sh (d : Int) (l : List Slt) (i : Nat) (h : i < l.length) : (l.map (sh d)).getD i d0 = sh d (l.getD i d0) := by
  rw [getD_eq (by simpa using h), getD_eq h, List.getElem_map]
theorem near_sh (d : Int) (l : List Slt) (rule station rest : Int) : nearL (l.map (sh d)) rule station rest = nearL l rule station rest := by
  unfold nearL nearTo
  rw [List.length_map]
  apply flatMap_congr'
  intro i hi
  have hi' : i < l.length := by simpa using hi
  unfold rowTo
  congr 1
  apply List.filter_congr
  intro j hj
  have hj' : j < l.length := by simpa using hj
  congr 1
  unfold pairB
  rw [getD_sh d l i hi', getD_sh d l j hj', meet_sh]
  rfl
theorem at_sh (d : Int) (l : List Slt) (nm : ByteArray) (h : decide (0 ≤ findI l nm) = true) : at' (l.map (sh d)) (findI l nm) = sh d (at' l (findI l nm)) := by
  rcases findI_is l nm with e | ⟨k, hk, e⟩
  · rw [e] at h; simp at h
  · rw [e]
    unfold at'
    rw [Int.toNat_natCast, getD_sh d l k hk]
theorem hold_sh (d : Int) (l : List Slt) (rule x low high : Int) : holdTo (l.map (sh d)) rule x low (high + d) l.length = holdTo l rule x low high l.length := by
  unfold holdTo
  congr 1
  apply List.filter_congr
  intro i hi
  have hi' : i < l.length := by simpa using hi
  unfold holdB
  rw [getD_sh d l i hi']
  unfold sh
  simp only
  have e : ((l.getD i d0).fr + d < high + d) ↔ ((l.getD i d0).fr < high) := by omega
  simp only [e]
theorem broken_sh (d : Int) (l : List Slt) (r : Rul) (rule : Int) : brokenL (l.map (sh d)) (shr d r) rule = brokenL l r rule := by
  by_cases k1 : r.kind = 1
  · have e : shr d r = {r with low := r.low + d, high := r.high + d} := by unfold shr; rw [if_pos k1]
    unfold brokenL
    rw [e, if_pos k1, if_pos k1]
    unfold winB
    simp only [findI_sh]
    cases h : decide (0 ≤ findI l r.a)
    · rfl
    · rw [at_sh d l r.a h]
      unfold sh
      simp only
      have e1 : ((at' l (findI l r.a)).fr + d < r.low + d) ↔ ((at' l (findI l r.a)).fr < r.low) := by omega
      have e2 : (r.high + d < (at' l (findI l r.a)).to + d) ↔ (r.high < (at' l (findI l r.a)).to) := by omega
      simp only [e1, e2]
  by_cases k5 : r.kind = 5
  · have e : shr d r = {r with high := r.high + d} := by unfold shr; rw [if_neg k1, if_pos k5]
    unfold brokenL
    rw [e]
    simp only [k5, findI_sh, List.length_map, hold_sh]
    rfl
  have e : shr d r = r := by unfold shr; rw [if_neg k1, if_neg k5]
  rw [e]
  unfold brokenL
  rw [if_neg k1, if_neg k1]
  by_cases k2 : r.kind = 2
  · rw [if_pos k2, if_pos k2]
    unfold befB
    simp only [findI_sh]
    cases h : decide (0 ≤ findI l r.a)
    · rfl
    cases h' : decide (0 ≤ findI l r.b)
    · rfl
    rw [at_sh d l r.a h, at_sh d l r.b h']
    unfold sh
    simp only
    have e1 : ((at' l (findI l r.b)).fr + d < (at' l (findI l r.a)).to + d + r.low) ↔ ((at' l (findI l r.b)).fr < (at' l (findI l r.a)).to + r.low) := by omega
    simp only [e1]
  rw [if_neg k2, if_neg k2]
  by_cases k3 : r.kind = 3
  · rw [if_pos k3, if_pos k3]
    unfold apaB
    simp only [findI_sh]
    cases h : decide (0 ≤ findI l r.a)
    · rfl
    cases h' : decide (0 ≤ findI l r.b)
    · rfl
    rw [at_sh d l r.a h, at_sh d l r.b h', meet_sh]
  rw [if_neg k3, if_neg k3, near_sh, if_neg k5, if_neg k5]
theorem all_sh (d : Int) (l : List Slt) (rs : List Rul) : allL (l.map (sh d)) (rs.map (shr d)) = allL l rs := by
  unfold allL
  rw [List.length_map]
  have key : ∀ k, k ≤ rs.length → allTo (l.map (sh d)) (rs.map (shr d)) k = allTo l rs k := by
    intro k
    induction k with
    | zero => intro _; exact near_sh d l _ _ _
    | succ k ih =>
      intro hk
      rw [allTo_succ (by rw [List.length_map]; omega), allTo_succ (by omega), ih (by omega), List.getElem_map, broken_sh]
  exact key rs.length (Nat.le_refl _)
theorem rule_one {r : Rul} (h : ruleB r = true) (k : r.kind = 1) : 0 ≤ r.low ∧ r.low ≤ 1000 ∧ 0 ≤ r.high ∧ r.high ≤ 1000 := by
  unfold ruleB hourB at h
  simp [k] at h
  omega
theorem rule_five {r : Rul} (h : ruleB r = true) (k : r.kind = 5) : 0 ≤ r.low ∧ r.low < 8 ∧ 0 ≤ r.high ∧ r.high ≤ 1000 := by
  unfold ruleB hourB statB at h
  simp [k] at h
  omega
end Go.Proofs.Ythmfjlphmamegaa
