/- What a valid plan is good for, and what the functions of layer 43 compute for it, as plain functions. -/
import Derived.Test.YthmfjlphmamegaaPlj
namespace Go.Proofs.Ythmfjlphmamegaa
open Go.ChangeShapes Go.WideShapes Go.ChangeAt Go.RowKit
set_option linter.unusedVariables false

def r0 : Rul := ⟨0, .empty, .empty, 0, 0, .empty⟩
def allL (l : List Slt) (rs : List Rul) : List Bre := allTo l rs rs.length
/- what a valid plan is good for -/
structure Okp (l : List Slt) (rs : List Rul) : Prop where
  ls : l.length ≤ 20
  rl : rs.length ≤ 20
  nd : dupB l = false
  sl : ∀ i (h : i < l.length), slotB l[i] = true
  ru : ∀ i (h : i < rs.length), ruleB rs[i] = true
theorem okp_of {l : List Slt} {rs : List Rul} (h : checkE l rs = 0) : Okp l rs := by
  unfold checkE at h
  by_cases h1 : 20 < l.length ∨ 20 < rs.length
  · rw [if_pos h1] at h; omega
  rw [if_neg h1] at h
  cases hd : dupB l
  · rw [hd] at h
    simp only [Bool.false_eq_true, if_false] at h
    split at h
    · rename_i hh
      rw [Bool.and_eq_true, List.all_eq_true, List.all_eq_true] at hh
      exact ⟨by omega, by omega, hd, fun i hi => hh.1 _ (List.getElem_mem hi), fun i hi => hh.2 _ (List.getElem_mem hi)⟩
    · omega
  · rw [hd, if_pos rfl] at h; omega
theorem okp_zero {l : List Slt} {rs : List Rul} (h : Okp l rs) : checkE l rs = 0 := by
  unfold checkE
  have a1 := h.ls
  have a2 := h.rl
  rw [if_neg (by omega), h.nd]
  have h1 : l.all slotB = true := by
    rw [List.all_eq_true]; intro x hx; obtain ⟨i, hi, rfl⟩ := List.mem_iff_getElem.1 hx; exact h.sl i hi
  have h2 : rs.all ruleB = true := by
    rw [List.all_eq_true]; intro x hx; obtain ⟨i, hi, rfl⟩ := List.mem_iff_getElem.1 hx; exact h.ru i hi
  rw [h1, h2]; rfl
theorem slot_times {s : Slt} (h : slotB s = true) : Tm s ∧ s.fr < s.to ∧ 0 ≤ s.st ∧ s.st < 8 := by
  unfold slotB statB hourB at h
  simp only [Bool.and_eq_true, decide_eq_true_eq] at h
  unfold Tm; omega
theorem Okp.tms {l : List Slt} {rs : List Rul} (h : Okp l rs) : Tms l := fun i hi => (slot_times (h.sl i hi)).1
theorem rule_kind {r : Rul} (h : ruleB r = true) : ((r.kind == 1) = true ∨ ((r.kind == 1) = false ∧ (r.kind == 2) = true) ∨ ((r.kind == 1) = false ∧ (r.kind == 2) = false ∧ (r.kind == 3) = true) ∨ ((r.kind == 1) = false ∧ (r.kind == 2) = false ∧ (r.kind == 3) = false ∧ (r.kind == 4) = true) ∨ ((r.kind == 1) = false ∧ (r.kind == 2) = false ∧ (r.kind == 3) = false ∧ (r.kind == 4) = false ∧ (r.kind == 5) = true)) := by
  unfold ruleB at h
  rw [Bool.and_eq_true] at h
  have h2 := h.2
  simp only [beq_iff_eq, beq_eq_false_iff_ne]
  by_cases e1 : r.kind = 1
  · exact .inl e1
  by_cases e2 : r.kind = 2
  · exact .inr (.inl ⟨e1, e2⟩)
  by_cases e3 : r.kind = 3
  · exact .inr (.inr (.inl ⟨e1, e2, e3⟩))
  by_cases e4 : r.kind = 4
  · exact .inr (.inr (.inr (.inl ⟨e1, e2, e3, e4⟩)))
  by_cases e5 : r.kind = 5
  · exact .inr (.inr (.inr (.inr ⟨e1, e2, e3, e4, e5⟩)))
  simp [e1, e2, e3, e4, e5] at h2
theorem rule_two {r : Rul} (h : ruleB r = true) (k : r.kind = 2) : 0 ≤ r.low ∧ r.low ≤ 1000 := by
  unfold ruleB hourB at h
  simp [k] at h
  omega
theorem rule_four {r : Rul} (h : ruleB r = true) (k : r.kind = 4) : 0 ≤ r.low ∧ r.low < 8 ∧ 0 ≤ r.high ∧ r.high ≤ 1000 := by
  unfold ruleB hourB statB at h
  simp [k] at h
  omega

theorem near_rule (l : List Slt) (rule station rest : Int) : ∀ x ∈ nearL l rule station rest, x.1 = rule := by
  intro x hx
  unfold nearL nearTo at hx
  obtain ⟨i, _, hx⟩ := List.mem_flatMap.1 hx
  unfold rowTo at hx
  obtain ⟨j, _, rfl⟩ := List.mem_map.1 hx
  rfl
theorem broken_rule (l : List Slt) (r : Rul) (rule : Int) : ∀ x ∈ brokenL l r rule, x.1 = rule := by
  intro x hx
  unfold brokenL at hx
  split at hx
  · split at hx <;> simp at hx; rw [hx]
  split at hx
  · split at hx <;> simp at hx; rw [hx]
  split at hx
  · split at hx <;> simp at hx; rw [hx]
  split at hx
  · exact near_rule _ _ _ _ x hx
  split at hx
  · unfold holdTo at hx
    obtain ⟨j, _, rfl⟩ := List.mem_map.1 hx
    rfl
  · simp at hx
theorem allTo_rule (l : List Slt) (rs : List Rul) (k : Nat) (hk : k ≤ rs.length) : ∀ x ∈ allTo l rs k, x.1 = -1 ∨ ∃ j : Nat, j < k ∧ x.1 = (j : Int) := by
  induction k with
  | zero => intro x hx; exact .inl (near_rule _ _ _ _ x hx)
  | succ k ih =>
    intro x hx
    rw [allTo_succ (by omega)] at hx
    rcases List.mem_append.1 hx with hx | hx
    · rcases ih (by omega) x hx with h | ⟨j, hj, e⟩
      · exact .inl h
      · exact .inr ⟨j, by omega, e⟩
    · exact .inr ⟨k, by omega, broken_rule _ _ _ x hx⟩
theorem sq20 {n : Nat} (h : n ≤ 20) : n * n ≤ 400 := by
  have := Nat.mul_le_mul h h
  omega
theorem allTo_len (l : List Slt) (rs : List Rul) (k : Nat) (hl : l.length ≤ 20) : (allTo l rs k).length ≤ 400 + k * 421 := by
  have hm := sq20 hl
  induction k with
  | zero =>
    have := nearTo_len l (-1) (-1) 0 l.length
    simp only [allTo, nearL]
    omega
  | succ k ih =>
    simp only [allTo, List.length_append]
    cases h : rs[k]? with
    | none => exact Nat.le_trans ih (Nat.add_le_add_left (Nat.mul_le_mul_right _ (Nat.le_succ k)) 400)
    | some r =>
      have := brokenL_len l r k
      simp only
      omega
def obeysB (l : List Slt) (rs : List Rul) : Bool := (allL l rs).all fun x => decide (0 ≤ x.1) && !(rs.getD x.1.toNat r0).why.toList.isEmpty
def excB (l : List Slt) (rs : List Rul) (i : Nat) : Bool := !(rs.getD i r0).why.toList.isEmpty && decide (0 < (brokenL l (rs.getD i r0) i).length)
def excTo (l : List Slt) (rs : List Rul) (k : Nat) : List ByteArray := ((List.range k).filter (excB l rs)).map fun i => (rs.getD i r0).why
def excL (l : List Slt) (rs : List Rul) : List ByteArray := excTo l rs rs.length
theorem getR_eq {l : List Rul} {i : Nat} (h : i < l.length) : l.getD i r0 = l[i] := by
  simp [List.getD_eq_getElem?_getD, List.getElem?_eq_getElem h]
theorem excTo_succ {l : List Slt} {rs : List Rul} {k : Nat} (h : k < rs.length) : excTo l rs (k + 1) = excTo l rs k ++ (if (!rs[k].why.toList.isEmpty && decide (0 < (brokenL l rs[k] k).length)) then [rs[k].why] else []) := by
  unfold excTo
  rw [List.range_succ, List.filter_append, List.map_append]
  congr 1
  have e : excB l rs k = (!rs[k].why.toList.isEmpty && decide (0 < (brokenL l rs[k] k).length)) := by unfold excB; rw [getR_eq h]
  rw [← e]
  cases hp : excB l rs k
  · simp [hp]
  · rw [if_pos rfl]; simp [hp, List.getElem?_eq_getElem h]
theorem excTo_len (l : List Slt) (rs : List Rul) (k : Nat) : (excTo l rs k).length ≤ k := by
  unfold excTo
  rw [List.length_map]
  exact Nat.le_trans (List.length_filter_le _ _) (by simp)
end Go.Proofs.Ythmfjlphmamegaa
