/- Plain words on the data blocks of a stripe of which some are lost. -/
import Derived.Test.YtmpmeeacdllomaaPac
namespace Go.Proofs.Ytmpmeeacdllomaa
open Go.ChangeShapes Go.WideShapes Go.ChangeAt Go.RowKit Gf
set_option linter.unusedVariables false

/- the sum of the parity j and its parts that are there -/
def synTo (D : Nat) (m : List (List Nat)) (j : Nat) : Nat → List Nat
  | 0 => m.getD (D + j) []
  | i + 1 => addR (synTo D m j i) (m.getD i []) (fac D j i)
def syn (D : Nat) (m : List (List Nat)) (j : Nat) : List Nat := synTo D m j D
/- the parities that are taken, among the first k: at most g -/
def choTo (D : Nat) (m : List (List Nat)) (g : Nat) : Nat → List Nat
  | 0 => []
  | k + 1 => if (choTo D m g k).length < g ∧ (m.getD (D + k) []).length ≠ 0 then choTo D m g k ++ [k] else choTo D m g k
def goneL (D : Nat) (m : List (List Nat)) : List Nat := lostL m D
def matM (D : Nat) (m : List (List Nat)) (cho : List Nat) : List (List Nat) := cho.map fun j => (goneL D m).map (fac D j)
def matR (D : Nat) (m : List (List Nat)) (cho : List Nat) : List (List Nat) := cho.map (syn D m)
def solR (D M : Nat) (m : List (List Nat)) : List (List Nat) := (gjTo (matM D m (choTo D m (goneL D m).length M)) (matR D m (choTo D m (goneL D m).length M)) (goneL D m).length).2
def dataL (D M : Nat) (m : List (List Nat)) : List (List Nat) := (List.range D).map fun i => if (m.getD i []).length = 0 then (solR D M m).getD (lostL m i).length [] else m.getD i []
theorem synTo_len (D : Nat) (m : List (List Nat)) (j i : Nat) : (synTo D m j i).length = (m.getD (D + j) []).length := by
  induction i with
  | zero => rfl
  | succ i ih => rw [synTo, addR_len, ih]
theorem synTo_byt {D : Nat} {m : List (List Nat)} {j : Nat} (hb : ∀ l ∈ m, Byt l) (hD : D ≤ 8) (hj : j < 4) (hlt : D + j < m.length) : ∀ i, i ≤ D → Byt (synTo D m j i)
  | 0, _ => by
    rw [synTo]
    obtain ⟨l, hl⟩ := get_some hlt
    rw [getD_of hl]; exact hb l (List.mem_of_getElem? hl)
  | i + 1, h => addR_byt (synTo_byt hb hD hj hlt i (by omega)) (fac_lt (by omega) (by omega))
theorem choTo_le (D : Nat) (m : List (List Nat)) (g k : Nat) : (choTo D m g k).length ≤ g ∧ (choTo D m g k).length ≤ k ∧ ∀ x ∈ choTo D m g k, x < k ∧ (m.getD (D + x) []).length ≠ 0 := by
  induction k with
  | zero => exact ⟨by simp [choTo], by simp [choTo], by simp [choTo]⟩
  | succ k ih =>
    simp only [choTo]
    split
    · rename_i h
      refine ⟨by simp; omega, by simp; omega, fun x hx => ?_⟩
      rcases List.mem_append.1 hx with h1 | h1
      · have := ih.2.2 x h1; exact ⟨by omega, this.2⟩
      · simp at h1; subst h1; exact ⟨by omega, h.2⟩
    · exact ⟨ih.1, by omega, fun x hx => ⟨by have := (ih.2.2 x hx).1; omega, (ih.2.2 x hx).2⟩⟩
/- once there are enough, none is taken -/
theorem choTo_full {D : Nat} {m : List (List Nat)} {g k : Nat} (h : (choTo D m g k).length = g) : ∀ d, choTo D m g (k + d) = choTo D m g k
  | 0 => rfl
  | d + 1 => by
    rw [← Nat.add_assoc, choTo, choTo_full h d, if_neg (by omega)]
/- where fewer than g are taken, all that are there are -/
theorem cho_lost {D : Nat} {m : List (List Nat)} {g : Nat} : ∀ k, (choTo D m g k).length < g → D + k ≤ m.length → (choTo D m g k).length + lostN ((m.drop D).take k) = k
  | 0, _, _ => by simp [choTo, lostN]
  | k + 1, h, hl => by
    have hk : (m.drop D)[k]? = m[D + k]? := by rw [List.getElem?_drop]
    obtain ⟨l, e⟩ := get_some (show D + k < m.length by omega)
    rw [e] at hk
    rw [lostN_snoc hk]
    simp only [choTo] at h ⊢
    rw [getD_of e] at h ⊢
    by_cases c : (choTo D m g k).length < g ∧ l.length ≠ 0
    · rw [if_pos c] at h ⊢
      have := cho_lost k c.1 (by omega)
      rw [if_neg c.2]; simp; omega
    · rw [if_neg c] at h ⊢
      have := cho_lost k h (by omega)
      have h0 : l.length = 0 := by
        by_cases h0 : l.length = 0
        · exact h0
        · exact absurd ⟨h, h0⟩ c
      rw [if_pos h0]; omega
theorem lost_split (D : Nat) (m : List (List Nat)) : lostN m = lostN (m.take D) + lostN (m.drop D) := by
  rw [← lostN_append, List.take_append_drop]
/- there are parities enough -/
theorem cho_enough {D M : Nat} {m : List (List Nat)} (hm : m.length = D + M) (h : lostN m ≤ M) : (choTo D m (goneL D m).length M).length = (goneL D m).length := by
  have hg : (goneL D m).length = lostN (m.take D) := lostL_count D (by omega)
  have h1 := (choTo_le D m (goneL D m).length M).1
  rcases Nat.lt_or_ge (choTo D m (goneL D m).length M).length (goneL D m).length with hlt | hge
  · have := cho_lost M hlt (by omega)
    rw [List.take_of_length_le (by rw [List.length_drop]; omega)] at this
    have := lost_split D m
    omega
  · omega
theorem lostL_more (m : List (List Nat)) (n : Nat) : lostL m (n + 1) = lostL m n ++ (if (m.getD n []).length = 0 then [n] else []) := by
  unfold lostL
  rw [List.range_succ, List.filter_append, List.filter_cons, List.filter_nil]; simp only [decide_eq_true_eq]
/- the k-th of the lost ones -/
theorem lostL_rank {m : List (List Nat)} {k i : Nat} : ∀ n, (lostL m n)[k]? = some i → i < n ∧ (m.getD i []).length = 0 ∧ (lostL m i).length = k
  | 0, h => by simp [lostL] at h
  | n + 1, h => by
    rw [lostL_more] at h
    rcases Nat.lt_or_ge k (lostL m n).length with hk | hk
    · rw [List.getElem?_append_left hk] at h
      have := lostL_rank n h
      exact ⟨by omega, this.2⟩
    · rw [List.getElem?_append_right hk] at h
      have hlt := (List.getElem?_eq_some_iff.1 h).1
      by_cases h0 : (m.getD n []).length = 0
      · rw [if_pos h0] at h hlt
        have hk0 : k - (lostL m n).length = 0 := by simp at hlt; omega
        rw [hk0] at h
        simp at h
        subst h
        exact ⟨by omega, h0, by omega⟩
      · rw [if_neg h0] at hlt; simp at hlt
theorem lostL_mono (m : List (List Nat)) {a b : Nat} (h : a ≤ b) : (lostL m a).length ≤ (lostL m b).length := by
  induction b with
  | zero => rw [Nat.le_zero.1 h]; exact Nat.le_refl _
  | succ b ih =>
    rcases Nat.lt_or_ge a (b + 1) with h1 | h1
    · have := ih (by omega)
      unfold lostL at this ⊢
      rw [List.range_succ, List.filter_append, List.length_append]; omega
    · have : a = b + 1 := by omega
      subst this; exact Nat.le_refl _
theorem lostL_lt {m : List (List Nat)} {i n : Nat} (hi : i < n) (h0 : (m.getD i []).length = 0) : (lostL m i).length < (lostL m n).length := by
  have h1 : (lostL m (i + 1)).length = (lostL m i).length + 1 := by
    unfold lostL
    rw [List.range_succ, List.filter_append, List.length_append]
    rw [List.filter_cons, List.filter_nil]; simp only [h0, decide_true, if_true]; rfl
  have := lostL_mono m (show i + 1 ≤ n by omega)
  omega
theorem lostL_inj {m : List (List Nat)} {i j : Nat} (h0 : (m.getD i []).length = 0) (h1 : (m.getD j []).length = 0) (h : (lostL m i).length = (lostL m j).length) : i = j := by
  rcases Nat.lt_trichotomy i j with hl | he | hl
  · have := lostL_lt hl h0; omega
  · exact he
  · have := lostL_lt hl h1; omega
theorem matM_len (D : Nat) (m : List (List Nat)) (cho : List Nat) : (matM D m cho).length = cho.length := by simp [matM]
theorem matR_len (D : Nat) (m : List (List Nat)) (cho : List Nat) : (matR D m cho).length = cho.length := by simp [matR]
theorem matM_snoc (D : Nat) (m : List (List Nat)) (cho : List Nat) (j : Nat) : matM D m (cho ++ [j]) = matM D m cho ++ [(goneL D m).map (fac D j)] := by simp [matM]
theorem matR_snoc (D : Nat) (m : List (List Nat)) (cho : List Nat) (j : Nat) : matR D m (cho ++ [j]) = matR D m cho ++ [syn D m j] := by simp [matR]
theorem matM_rows (D : Nat) (m : List (List Nat)) (cho : List Nat) : ∀ l ∈ matM D m cho, l.length = (goneL D m).length := fun l hl => by
  simp only [matM, List.mem_map] at hl
  obtain ⟨j, _, rfl⟩ := hl
  simp
theorem dataL_len (D M : Nat) (m : List (List Nat)) : (dataL D M m).length = D := by simp [dataL]
theorem dataL_at {D M i : Nat} {m : List (List Nat)} (hi : i < D) : (dataL D M m)[i]? = some (if (m.getD i []).length = 0 then (solR D M m).getD (lostL m i).length [] else m.getD i []) := by
  simp only [dataL, List.getElem?_map, List.getElem?_range hi, Option.map_some]
end Go.Proofs.Ytmpmeeacdllomaa
