/- Plain laws of layer 45 for the reference's Restore: its elimination, byte by byte, gives the rows that the program's gives. -/
import Derived.Test.YtmpmeeacdllomaaPcj
import Derived.Test.YtmpmeeacdllomaaPcf
namespace Go.Proofs.Ytmpmeeacdllomaa
open Gf
set_option linter.unusedVariables false

/- the matrix with the right sides at the place k behind its rows -/
def augR (M R : List (List Nat)) (k : Nat) : List (List Nat) := (List.range M.length).map fun r => M.getD r [] ++ [(R.getD r []).getD k 0]
theorem augR_len (M R : List (List Nat)) (k : Nat) : (augR M R k).length = M.length := by simp [augR]
theorem augR_get {M R : List (List Nat)} {k r : Nat} (h : r < M.length) : (augR M R k)[r]? = some (M.getD r [] ++ [(R.getD r []).getD k 0]) := by
  simp only [augR, List.getElem?_map, List.getElem?_range h, Option.map_some]
theorem getD_app {a : List Nat} {y i : Nat} (h : i < a.length) : (a ++ [y]).getD i 0 = a.getD i 0 := by
  rw [List.getD_eq_getElem?_getD, List.getD_eq_getElem?_getD, List.getElem?_append_left h]
theorem getD_last {a : List Nat} {y n : Nat} (h : a.length = n) : (a ++ [y]).getD n 0 = y := by
  subst h; rw [List.getD_eq_getElem?_getD, List.getElem?_append_right (by omega)]; simp
theorem scaleR_app (f : Nat) (a : List Nat) (y : Nat) : scaleR f (a ++ [y]) = scaleR f a ++ [gm f y] := by simp [scaleR]
theorem addR_app {a b : List Nat} (h : a.length = b.length) (x y c : Nat) : addR (a ++ [x]) (b ++ [y]) c = addR a b c ++ [x ^^^ gm c y] := by
  unfold addR
  rw [List.length_append, List.length_singleton, List.range_succ, List.map_append]
  congr 1
  · refine List.map_congr_left fun i hi => ?_
    rw [List.mem_range] at hi
    rw [getD_app hi, getD_app (by omega)]
  · simp only [List.map_cons, List.map_nil]
    rw [getD_last rfl, getD_last h.symm]
theorem aug_elim {M R : List (List Nat)} {n q k p : Nat} (hM : M.length = n) (hR : R.length = n) (rM : ∀ l ∈ M, l.length = n) (rR : ∀ l ∈ R, l.length = q) (hk : k < q) (hp : p < n) :
    elim (augR M R k) (augR M R k) p n = augR (elim M M p n) (elim M R p n) k := by
  have gp : (augR M R k).getD p [] = M.getD p [] ++ [(R.getD p []).getD k 0] := getD_of (augR_get (by omega))
  have pf : pivF (augR M R k) p = pivF M p := by unfold pivF; rw [gp, getD_app (by rw [len_getD rM (by omega)]; exact hp)]
  apply List.ext_getElem?
  intro i
  by_cases hi : i < n
  · have gi' : (augR M R k).getD i [] = M.getD i [] ++ [(R.getD i []).getD k 0] := getD_of (augR_get (by omega))
    rw [elim_at (by rw [augR_len, hM]; exact hi), augR_get (by rw [elim_len, hM]; exact hi), elim_getD (by omega), elim_getD (by omega), pf, gp, gi']
    congr 1
    by_cases e : i = p
    · rw [if_pos e, if_pos e, if_pos e, scaleR_app, scaleR_getD]
    · rw [if_neg e, if_neg e, if_neg e, if_pos hi, if_pos hi, if_pos hi, scaleR_app, addR_app (by rw [scaleR_len, len_getD rM (by omega), len_getD rM (by omega)]), getD_app (by rw [len_getD rM (by omega)]; exact hp),
        addR_getD (by rw [len_getD rR (by omega)]; exact hk), scaleR_getD]
  · rw [List.getElem?_eq_none (by rw [elim_len, augR_len]; omega), List.getElem?_eq_none (by rw [augR_len, elim_len]; omega)]
theorem aug_gj {M R : List (List Nat)} {n q k : Nat} (hM : M.length = n) (hR : R.length = n) (rM : ∀ l ∈ M, l.length = n) (rR : ∀ l ∈ R, l.length = q) (hk : k < q) : ∀ p, p ≤ n → (gjTo (augR M R k) [] p).1 = augR (gjTo M R p).1 (gjTo M R p).2 k
  | 0, _ => rfl
  | p + 1, h => by
    have gl := gjTo_len M R p
    have gr := gjTo_rows rM rR (by omega) p (by omega)
    have ih := aug_gj hM hR rM rR hk p (by omega)
    simp only [gjTo]
    rw [ih, augR_len, hM]
    exact aug_elim (by rw [gl.1, hM]) (by rw [gl.2, hR]) gr.1 gr.2 hk (by omega)
theorem aug_last {X Y : List (List Nat)} {n k : Nat} (hX : X.length = n) (rX : ∀ l ∈ X, l.length = n) : lastC (augR X Y k) n n = (List.range n).map fun i => (Y.getD i []).getD k 0 := by
  unfold lastC
  refine List.map_congr_left fun i hi => ?_
  rw [List.mem_range] at hi
  rw [getD_of (augR_get (by omega)), getD_last (len_getD rX (by omega))]
theorem augR_rows {M R : List (List Nat)} {n k : Nat} (rM : ∀ l ∈ M, l.length = n) : ∀ l ∈ augR M R k, l.length = n + 1 := fun l hl => by
  simp only [augR, List.mem_map, List.mem_range] at hl
  obtain ⟨i, hi, rfl⟩ := hl
  rw [List.length_append, len_getD rM hi]; rfl
/- the row of a parity at the place k -/
def rowJ (D : Nat) (m : List (List Nat)) (k j : Nat) : List Nat := (goneL D m).map (fac D j) ++ [(syn D m j).getD k 0]
theorem rows_eq (D : Nat) (m : List (List Nat)) (cho : List Nat) (k : Nat) : cho.map (rowJ D m k) = augR (matM D m cho) (matR D m cho) k := by
  apply List.ext_getElem?
  intro r
  by_cases hr : r < cho.length
  · obtain ⟨j, hj⟩ := get_some hr
    rw [augR_get (by rw [matM_len]; exact hr), List.getElem?_map, hj]
    have e1 : (matM D m cho).getD r [] = (goneL D m).map (fac D j) := getD_of (by simp [matM, hj])
    have e2 : (matR D m cho).getD r [] = syn D m j := getD_of (by simp [matR, hj])
    rw [e1, e2]; rfl
  · rw [List.getElem?_eq_none (by simpa using hr), List.getElem?_eq_none (by rw [augR_len, matM_len]; omega)]
/- what the reference's elimination answers at the place k -/
theorem ref_sol {D M k : Nat} {m : List (List Nat)} (h : Ok D M m) (hb : ∀ l ∈ m, Byt l) (hl : lostN m ≤ M) (hk : k < szL m) :
    (∀ l ∈ (choTo D m (goneL D m).length M).map (rowJ D m k), l.length = (goneL D m).length + 1) ∧ (∀ l ∈ (choTo D m (goneL D m).length M).map (rowJ D m k), Byt l) ∧
    (∀ p, p < (goneL D m).length → ((gjTo ((choTo D m (goneL D m).length M).map (rowJ D m k)) [] p).1.getD p []).getD p 0 ≠ 0) ∧
    lastC (gjTo ((choTo D m (goneL D m).length M).map (rowJ D m k)) [] (goneL D m).length).1 (goneL D m).length (goneL D m).length = (List.range (goneL D m).length).map fun i => ((solR D M m).getD i []).getD k 0 := by
  have ce := cho_enough h.len hl
  have d8 := h.d8
  have m4 := h.m4
  have sr := solR_rows h hl
  have g4 : (goneL D m).length ≤ 4 := by
    have h1 : (goneL D m).length = lostN (m.take D) := lostL_count _ (by have := h.len; omega)
    have := lost_split D m
    omega
  have ML : (matM D m (choTo D m (goneL D m).length M)).length = (goneL D m).length := by rw [matM_len, ce]
  have RL : (matR D m (choTo D m (goneL D m).length M)).length = (goneL D m).length := by rw [matR_len, ce]
  have cs : choTo D m (goneL D m).length M ∈ subs 4 (goneL D m).length := by
    have := choTo_subs D m (goneL D m).length M
    rw [ce] at this
    exact subs_le this m4
  have gs : goneL D m ∈ subs D (goneL D m).length := lostL_subs m D
  obtain ⟨_, hpv⟩ := allOk_out (all_ok h.d1 d8 g4) gs cs ce
  have RR : ∀ l ∈ matR D m (choTo D m (goneL D m).length M), l.length = szL m := fun l hl => by
    simp only [matR, List.mem_map] at hl
    obtain ⟨x, hx, rfl⟩ := hl
    obtain ⟨x1, x2⟩ := (choTo_le D m (goneL D m).length M).2.2 x hx
    unfold syn
    rw [synTo_len]
    obtain ⟨z, hz⟩ := get_some (show D + x < m.length by rw [h.len]; omega)
    rw [getD_of hz] at x2 ⊢
    rcases h.each z (List.mem_of_getElem? hz) with h | h
    · exact absurd h x2
    · exact h
  have MR := matM_rows D m (choTo D m (goneL D m).length M)
  have gj := aug_gj ML RL MR RR hk
  have gr := gjTo_rows MR RR (by rw [ML, RL])
  refine ⟨?_, ?_, ?_, ?_⟩
  · rw [rows_eq]; exact augR_rows MR
  · intro l hl
    obtain ⟨j, hj, rfl⟩ := List.mem_map.1 hl
    have hj' := ((choTo_le D m (goneL D m).length M).2.2 j hj).1
    refine Byt.append (fun x hx => ?_) (fun x hx => ?_)
    · obtain ⟨i, hi, rfl⟩ := List.mem_map.1 hx
      obtain ⟨k', hk'⟩ := List.mem_iff_getElem?.1 hi
      have := (lostL_rank _ hk').1
      exact fac_lt (by omega) (by omega)
    · simp only [List.mem_singleton] at hx
      subst hx
      exact Byt.getD_ (synTo_byt hb d8 (by omega) (by rw [h.len]; omega) D (Nat.le_refl _)) k
  · intro p hp
    rw [rows_eq, gj p (by omega), getD_of (augR_get (by rw [(gjTo_len _ _ p).1, ML]; exact hp)), getD_app (by rw [len_getD (gr p (by rw [ML]; omega)).1 (by rw [(gjTo_len _ _ p).1, ML]; exact hp)]; exact hp), gjTo_fst _ _ []]
    exact hpv p hp
  · rw [rows_eq, gj _ (Nat.le_refl _), aug_last (by rw [(gjTo_len _ _ _).1, ML]) (gr _ (by rw [ML]; exact Nat.le_refl _)).1]
    rfl
/- the right side, part by part -/
theorem right_lost {D j k i : Nat} {m : List (List Nat)} (hk : k < (m.getD (D + j) []).length) (h0 : (m.getD i []).length = 0) : (synTo D m j (i + 1)).getD k 0 = (synTo D m j i).getD k 0 := by
  have e : m.getD i [] = [] := List.eq_nil_of_length_eq_zero h0
  rw [synTo, addR_getD (by rw [synTo_len]; exact hk), e]
  simp [gm_zero_right]
theorem right_here {D j k i y : Nat} {m : List (List Nat)} {l : List Nat} (hk : k < (m.getD (D + j) []).length) (hl : m[i]? = some l) (hy : l[k]? = some y) : (synTo D m j (i + 1)).getD k 0 = (synTo D m j i).getD k 0 ^^^ gm (fac D j i) y := by
  rw [synTo, addR_getD (by rw [synTo_len]; exact hk), getD_of hl, List.getD_eq_getElem?_getD (l := l), hy]; rfl
end Go.Proofs.Ytmpmeeacdllomaa
