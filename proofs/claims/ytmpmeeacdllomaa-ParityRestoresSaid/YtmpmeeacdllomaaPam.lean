/- Plain functions of layer 45: lengths, lost blocks, valid stripes. No program is in sight here. -/
import Derived.Test.YtmpmeeacdllomaaGf
namespace Go.Proofs.Ytmpmeeacdllomaa

def szL : List (List Nat) → Nat
  | [] => 0
  | l :: m => if l.length = 0 then szL m else l.length
def lostN : List (List Nat) → Nat
  | [] => 0
  | l :: m => (if l.length = 0 then 1 else 0) + lostN m
theorem szL_at {m : List (List Nat)} {k : Nat} {l : List Nat} (hk : m[k]? = some l) (h0 : l.length ≠ 0) (h : ∀ (j : Nat) (l' : List Nat), j < k → m[j]? = some l' → l'.length = 0) : szL m = l.length := by
  induction m generalizing k with
  | nil => simp at hk
  | cons x m ih =>
    cases k with
    | zero =>
      simp at hk; subst hk
      unfold szL; rw [if_neg h0]
    | succ k =>
      have hx := h 0 x (by omega) rfl
      unfold szL; rw [if_pos hx]
      exact ih (by simpa using hk) (fun j l' hj hl => h (j + 1) l' (by omega) (by simpa using hl))
theorem szL_none {m : List (List Nat)} (h : ∀ (j : Nat) (l' : List Nat), m[j]? = some l' → l'.length = 0) : szL m = 0 := by
  induction m with
  | nil => rfl
  | cons x m ih =>
    unfold szL; rw [if_pos (h 0 x rfl)]
    exact ih (fun j l' hl => h (j + 1) l' (by simpa using hl))
theorem szL_mem {m : List (List Nat)} (h : szL m ≠ 0) : ∃ l ∈ m, l.length = szL m := by
  induction m with
  | nil => exact absurd rfl h
  | cons x m ih =>
    by_cases hx : x.length = 0
    · have e : szL (x :: m) = szL m := by rw [szL, if_pos hx]
      rw [e] at h ⊢
      obtain ⟨l, hl, he⟩ := ih h
      exact ⟨l, List.mem_cons_of_mem _ hl, he⟩
    · have e : szL (x :: m) = x.length := by rw [szL, if_neg hx]
      exact ⟨x, List.mem_cons_self, e.symm⟩
theorem lostN_append (a b : List (List Nat)) : lostN (a ++ b) = lostN a + lostN b := by
  induction a with
  | nil => simp [lostN]
  | cons x a ih => simp only [List.cons_append, lostN, ih]; omega
theorem take_snoc' {α : Type} {m : List α} {k : Nat} {l : α} (h : m[k]? = some l) : m.take (k + 1) = m.take k ++ [l] := by
  rw [List.take_add_one, h]; rfl
theorem lostN_snoc {m : List (List Nat)} {k : Nat} {l : List Nat} (h : m[k]? = some l) : lostN (m.take (k + 1)) = lostN (m.take k) + (if l.length = 0 then 1 else 0) := by
  rw [take_snoc' h, lostN_append]; simp [lostN]
theorem lostN_le (m : List (List Nat)) : lostN m ≤ m.length := by
  induction m with
  | nil => simp [lostN]
  | cons x m ih => simp only [lostN, List.length_cons]; split <;> omega
/- the error of a stripe -/
def okN (D M : Int) : Bool := decide (1 ≤ D) && (decide (D ≤ 8) && (decide (0 ≤ M) && decide (M ≤ 4)))
def okM (m : List (List Nat)) : Bool := m.all fun l => decide (l.length = 0) || decide (l.length = szL m)
def chkE (D M : Int) (m : List (List Nat)) : Int :=
  if 12 < m.length then 4 else if okN D M = false then 8 else if (m.length : Int) ≠ D + M then 8 else if szL m < 1 ∨ 64 < szL m then 8 else if okM m then 0 else 8
theorem okM_false {m : List (List Nat)} {k : Nat} {l : List Nat} (hk : m[k]? = some l) (h0 : l.length ≠ 0) (h1 : l.length ≠ szL m) : okM m = false := by
  unfold okM
  rw [List.all_eq_false]
  exact ⟨l, List.mem_of_getElem? hk, by simp [h1]; intro h; exact h0 (by simp [h])⟩
theorem okM_true {m : List (List Nat)} (h : ∀ (j : Nat) (l' : List Nat), m[j]? = some l' → l'.length = 0 ∨ l'.length = szL m) : okM m = true := by
  unfold okM
  rw [List.all_eq_true]
  intro l hl
  obtain ⟨j, hj, rfl⟩ := List.mem_iff_getElem.1 hl
  rcases h j _ (List.getElem?_eq_getElem hj) with h' | h' <;> simp [h']
theorem okM_out {m : List (List Nat)} (h : okM m = true) {l : List Nat} (hl : l ∈ m) : l.length = 0 ∨ l.length = szL m := by
  unfold okM at h
  rw [List.all_eq_true] at h
  have := h l hl
  simpa using this
/- a valid stripe -/
structure Ok (D M : Nat) (m : List (List Nat)) : Prop where
  d1 : 1 ≤ D
  d8 : D ≤ 8
  m4 : M ≤ 4
  len : m.length = D + M
  s1 : 1 ≤ szL m
  s64 : szL m ≤ 64
  each : ∀ l ∈ m, l.length = 0 ∨ l.length = szL m
theorem chkE_ok {D M : Int} {m : List (List Nat)} (h : chkE D M m = 0) : Ok D.toNat M.toNat m ∧ D = (D.toNat : Int) ∧ M = (M.toNat : Int) := by
  unfold chkE at h
  by_cases h1 : 12 < m.length
  · rw [if_pos h1] at h; cases h
  rw [if_neg h1] at h
  by_cases h2 : okN D M = false
  · rw [if_pos h2] at h; cases h
  rw [if_neg h2] at h
  by_cases h3 : (m.length : Int) ≠ D + M
  · rw [if_pos h3] at h; cases h
  rw [if_neg h3] at h
  by_cases h4 : szL m < 1 ∨ 64 < szL m
  · rw [if_pos h4] at h; cases h
  rw [if_neg h4] at h
  by_cases h5 : okM m = true
  · have h2' : okN D M = true := by simpa using h2
    unfold okN at h2'
    simp only [Bool.and_eq_true, decide_eq_true_eq] at h2'
    exact ⟨⟨by omega, by omega, by omega, by omega, by omega, by omega, fun l hl => okM_out h5 hl⟩, by omega, by omega⟩
  · rw [if_neg h5] at h; cases h
theorem ok_chkE {D M : Nat} {m : List (List Nat)} (h : Ok D M m) : chkE D M m = 0 := by
  have h1 := h.d1
  have h2 := h.d8
  have h3 := h.m4
  have h4 := h.len
  have h5 := h.s1
  have h6 := h.s64
  have a : okN (D : Int) (M : Int) = true := by unfold okN; simp only [Bool.and_eq_true, decide_eq_true_eq]; omega
  have b : okM m = true := okM_true fun j l' hl => h.each l' (List.mem_of_getElem? hl)
  unfold chkE
  rw [if_neg (by omega), if_neg (by rw [a]; decide), if_neg (by omega), if_neg (by omega), if_pos b]
end Go.Proofs.Ytmpmeeacdllomaa
