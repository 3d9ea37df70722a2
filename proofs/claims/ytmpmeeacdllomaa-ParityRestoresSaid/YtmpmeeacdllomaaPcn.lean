/- Plain words for the reference's Restore: the blocks while the lost ones are filled byte by byte. -/
import Derived.Test.YtmpmeeacdllomaaPck
namespace Go.Proofs.Ytmpmeeacdllomaa
open Gf
set_option linter.unusedVariables false

def mixZ (s : List Nat) (n k : Nat) : List Nat := (List.range n).map fun t => if t < k then s.getD t 0 else 0
theorem mixZ_len (s : List Nat) (n k : Nat) : (mixZ s n k).length = n := by simp [mixZ]
theorem mixZ_zero (s : List Nat) (n : Nat) : mixZ s n 0 = List.replicate n 0 := by
  unfold mixZ
  rw [List.eq_replicate_iff]
  exact ⟨by simp, fun b hb => by obtain ⟨t, _, rfl⟩ := List.mem_map.1 hb; rw [if_neg (by omega)]⟩
theorem mixZ_full {s : List Nat} {n : Nat} (h : s.length = n) : mixZ s n n = s := by
  refine row_ext (q := n) (mixZ_len _ _ _) h fun t ht => ?_
  simp only [mixZ, List.getD_eq_getElem?_getD, List.getElem?_map, List.getElem?_range ht, Option.map_some, Option.getD_some, if_pos ht]
theorem mixZ_succ {s : List Nat} {n k : Nat} (hk : k < n) : mixZ s n (k + 1) = (mixZ s n k).set k (s.getD k 0) := by
  apply List.ext_getElem?
  intro i
  rw [List.getElem?_set]
  by_cases hi : i < n
  · simp only [mixZ, List.getElem?_map, List.getElem?_range hi, Option.map_some, List.length_map, List.length_range]
    by_cases c : k = i
    · subst c; rw [if_pos rfl, if_pos (by omega), if_pos hk]
    · rw [if_neg c]
      congr 1
      by_cases c1 : i < k
      · rw [if_pos (by omega), if_pos c1]
      · rw [if_neg (by omega), if_neg c1]
  · rw [List.getElem?_eq_none (by rw [mixZ_len]; omega)]
    by_cases c : k = i
    · omega
    · rw [if_neg c, List.getElem?_eq_none (by rw [mixZ_len]; omega)]
/- the lost data blocks hold the first k bytes of the solution; those of a rank below r one more -/
def wK (d : Nat) (m : List (List Nat)) (n : Nat) (sol : List (List Nat)) (k r : Nat) : List (List Nat) := (List.range m.length).map fun i =>
  if i < d ∧ (m.getD i []).length = 0 then (if (lostL m i).length < r then mixZ (sol.getD (lostL m i).length []) n (k + 1) else mixZ (sol.getD (lostL m i).length []) n k) else m.getD i []
theorem wK_len (d : Nat) (m : List (List Nat)) (n : Nat) (sol : List (List Nat)) (k r : Nat) : (wK d m n sol k r).length = m.length := by simp [wK]
theorem wK_get {d n k r i : Nat} {m sol : List (List Nat)} (hi : i < m.length) : (wK d m n sol k r)[i]? = some (if i < d ∧ (m.getD i []).length = 0 then (if (lostL m i).length < r then mixZ (sol.getD (lostL m i).length []) n (k + 1) else mixZ (sol.getD (lostL m i).length []) n k) else m.getD i []) := by
  simp only [wK, List.getElem?_map, List.getElem?_range hi, Option.map_some]
theorem wK_next {d n k : Nat} {m sol : List (List Nat)} (hd : d ≤ m.length) : wK d m n sol k (goneL d m).length = wK d m n sol (k + 1) 0 := by
  unfold wK
  refine List.map_congr_left fun i _ => ?_
  by_cases c : i < d ∧ (m.getD i []).length = 0
  · rw [if_pos c, if_pos c, if_pos (show (lostL m i).length < (goneL d m).length from lostL_lt c.1 c.2), if_neg (by omega)]
  · rw [if_neg c, if_neg c]
theorem wK_at {d n k r x : Nat} {m sol : List (List Nat)} (hd : d ≤ m.length) (hx : (goneL d m)[r]? = some x) : (wK d m n sol k r)[x]? = some (mixZ (sol.getD r []) n k) := by
  obtain ⟨h1, h2, h3⟩ := lostL_rank d hx
  rw [wK_get (by omega), if_pos ⟨h1, h2⟩, if_neg (by omega), h3]
theorem wK_succ {d n k r x : Nat} {m sol : List (List Nat)} (hd : d ≤ m.length) (hk : k < n) (hx : (goneL d m)[r]? = some x) : wK d m n sol k (r + 1) = (wK d m n sol k r).set x ((mixZ (sol.getD r []) n k).set k ((sol.getD r []).getD k 0)) := by
  obtain ⟨h1, h2, h3⟩ := lostL_rank d hx
  rw [← mixZ_succ hk]
  apply List.ext_getElem?
  intro i
  rw [List.getElem?_set]
  by_cases hi : i < m.length
  · rw [wK_get hi, wK_get hi]
    by_cases c : x = i
    · subst c
      rw [if_pos rfl, if_pos ⟨h1, h2⟩, if_pos (by omega), if_pos (by rw [wK_len]; exact hi), h3]
    · rw [if_neg c]
      congr 1
      by_cases c1 : i < d ∧ (m.getD i []).length = 0
      · have : (lostL m i).length ≠ r := fun e => c (lostL_inj h2 c1.2 (by omega))
        rw [if_pos c1, if_pos c1]
        by_cases c2 : (lostL m i).length < r
        · rw [if_pos (by omega), if_pos c2]
        · rw [if_neg (by omega), if_neg c2]
      · rw [if_neg c1, if_neg c1]
  · rw [List.getElem?_eq_none (by rw [wK_len]; omega)]
    by_cases c : x = i
    · omega
    · rw [if_neg c, List.getElem?_eq_none (by rw [wK_len]; omega)]
theorem wK_end {d e : Nat} {m : List (List Nat)} (h : Ok d e m) (hl : lostN m ≤ e) : (wK d m (szL m) (solR d e m) (szL m) 0).take d = dataL d e m := by
  have sr := solR_rows h hl
  apply List.ext_getElem?
  intro i
  rw [List.getElem?_take]
  by_cases hi : i < d
  · rw [if_pos hi, wK_get (by rw [h.len]; omega), dataL_at hi]
    by_cases c : (m.getD i []).length = 0
    · rw [if_pos ⟨hi, c⟩, if_pos c, if_neg (by omega), mixZ_full (len_getD sr.2 (by rw [sr.1]; exact lostL_lt hi c))]
    · rw [if_neg (fun c' => c c'.2), if_neg c]
  · rw [if_neg hi, List.getElem?_eq_none (by rw [dataL_len]; omega)]
end Go.Proofs.Ytmpmeeacdllomaa
