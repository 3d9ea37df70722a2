/- Plain law of layer 45: a sound stripe of which at most as many blocks are lost as there are parities gives its data again; two sound stripes that differ in few blocks are the same. -/
import Derived.Test.YtmpmeeacdllomaaPcb
import Derived.Test.YtmpmeeacdllomaaPbf
namespace Go.Proofs.Ytmpmeeacdllomaa
open Gf
set_option linter.unusedVariables false

theorem parTo_getD {d : List (List Nat)} {j t : Nat} (ht : t < (d.getD 0 []).length) : ∀ i, (parTo d j i).getD t 0 = sumN (fun k => gm (fac d.length j k) ((d.getD k []).getD t 0)) i
  | 0 => by
    have : (List.replicate (d.getD 0 []).length 0)[t]? = some 0 := by rw [List.getElem?_replicate, if_pos ht]
    rw [parTo, List.getD_eq_getElem?_getD, this]; rfl
  | i + 1 => by rw [parTo, addR_getD (by rw [parTo_len]; exact ht), parTo_getD ht i]; rfl
theorem synTo_getD {D : Nat} {m : List (List Nat)} {j t : Nat} (ht : t < (m.getD (D + j) []).length) : ∀ i, (synTo D m j i).getD t 0 = (m.getD (D + j) []).getD t 0 ^^^ sumN (fun k => gm (fac D j k) ((m.getD k []).getD t 0)) i
  | 0 => by simp [synTo, sumN]
  | i + 1 => by rw [synTo, addR_getD (by rw [synTo_len]; exact ht), synTo_getD ht i, Nat.xor_assoc]; rfl
/- the place of a lost block among the lost ones -/
theorem lostL_place {m : List (List Nat)} {n : Nat} (h0 : (m.getD n []).length = 0) : ∀ D, n < D → (lostL m D)[(lostL m n).length]? = some n
  | 0, h => by omega
  | D + 1, h => by
    rw [lostL_more]
    by_cases e : n = D
    · subst e; rw [if_pos h0]; simp
    · have ih := lostL_place h0 D (by omega)
      rw [List.getElem?_append_left (get_lt ih)]; exact ih
/- m fits the stripe r: each block of m is lost, or that of r -/
structure Fit (m r : List (List Nat)) : Prop where
  len : m.length = r.length
  each : ∀ i, (m.getD i []).length = 0 ∨ m.getD i [] = r.getD i []
theorem sum_lost {D j t : Nat} {m r : List (List Nat)} {x : Nat → Nat} (hf : ∀ i, i < D → (m.getD i []).length = 0 ∨ m.getD i [] = r.getD i []) (hx : ∀ i, i < D → (m.getD i []).length = 0 → x (lostL m i).length = (r.getD i []).getD t 0) :
    ∀ n, n ≤ D → sumN (fun k => gm (fac D j k) ((r.getD k []).getD t 0)) n ^^^ sumN (fun k => gm (fac D j k) ((m.getD k []).getD t 0)) n = sumN (fun k => gm (((lostL m n).map (fac D j)).getD k 0) (x k)) (lostL m n).length
  | 0, _ => by simp [sumN, lostL]
  | n + 1, h => by
    have ih := sum_lost hf hx n (by omega) (j := j)
    have e1 : sumN (fun k => gm (fac D j k) ((r.getD k []).getD t 0)) (n + 1) ^^^ sumN (fun k => gm (fac D j k) ((m.getD k []).getD t 0)) (n + 1) = (sumN (fun k => gm (fac D j k) ((r.getD k []).getD t 0)) n ^^^ sumN (fun k => gm (fac D j k) ((m.getD k []).getD t 0)) n) ^^^ (gm (fac D j n) ((r.getD n []).getD t 0) ^^^ gm (fac D j n) ((m.getD n []).getD t 0)) := by simp only [sumN]; ac_rfl
    rw [e1, ih, lostL_more]
    by_cases h0 : (m.getD n []).length = 0
    · rw [if_pos h0, List.length_append, List.map_append]
      have em : m.getD n [] = [] := List.eq_nil_of_length_eq_zero h0
      show _ = sumN _ ((lostL m n).length + 1)
      simp only [sumN]
      congr 1
      · refine sumN_congr fun k hk => ?_
        rw [List.getD_eq_getElem?_getD, List.getD_eq_getElem?_getD, List.getElem?_append_left (by simpa using hk)]
      · rw [em, hx n (by omega) h0, List.getD_eq_getElem?_getD (l := List.map _ _ ++ _), List.getElem?_append_right (by simp)]
        simp [gm_zero_right]
    · rw [if_neg h0, List.append_nil]
      have em : m.getD n [] = r.getD n [] := (hf n (by omega)).resolve_left h0
      rw [em, Nat.xor_self, Nat.xor_zero]
theorem okd_len {d : List (List Nat)} {q : Nat} (h : OkD d q) : (d.getD 0 []).length = q := len_getD h.each (by have := h.d1; omega)
theorem enc_lo {d : List (List Nat)} {M i : Nat} (hi : i < d.length) : (enc d M).getD i [] = d.getD i [] := by
  unfold enc
  rw [List.getD_eq_getElem?_getD, List.getElem?_append_left hi, ← List.getD_eq_getElem?_getD]
theorem enc_hi {d : List (List Nat)} {M j : Nat} (hj : j < M) : (enc d M).getD (d.length + j) [] = par d j := by
  unfold enc
  rw [List.getD_eq_getElem?_getD, List.getElem?_append_right (by omega)]
  simp [hj]
theorem par_len {d : List (List Nat)} {q : Nat} (h : OkD d q) (j : Nat) : (par d j).length = q := by unfold par; rw [parTo_len, okd_len h]
theorem enc_rows {d : List (List Nat)} {q : Nat} (h : OkD d q) (M : Nat) : ∀ l ∈ enc d M, l.length = q := fun l hl => by
  unfold enc at hl
  rcases List.mem_append.1 hl with h1 | h1
  · exact h.each l h1
  · obtain ⟨j, _, rfl⟩ := List.mem_map.1 h1
    exact par_len h j
theorem enc_byt {d : List (List Nat)} {q M : Nat} (h : OkD d q) (hb : ∀ l ∈ d, Byt l) (hM : M ≤ 4) : ∀ l ∈ enc d M, Byt l := fun l hl => by
  unfold enc at hl
  rcases List.mem_append.1 hl with h1 | h1
  · exact hb l h1
  · obtain ⟨j, hj, rfl⟩ := List.mem_map.1 h1
    exact parTo_byt h.d8 (by have := List.mem_range.1 hj; omega) _ (Nat.le_refl _)
theorem getD_lt_of {m : List (List Nat)} {i : Nat} (h : (m.getD i []).length ≠ 0) : i < m.length := by
  rcases Nat.lt_or_ge i m.length with h1 | h1
  · exact h1
  · rw [List.getD_eq_getElem?_getD, List.getElem?_eq_none h1] at h; exact absurd rfl h
theorem row_ext {a b : List Nat} {q : Nat} (ha : a.length = q) (hb : b.length = q) (h : ∀ t, t < q → a.getD t 0 = b.getD t 0) : a = b := by
  apply List.ext_getElem (by omega)
  intro t h1 h2
  have := h t (by omega)
  rw [List.getD_eq_getElem?_getD, List.getD_eq_getElem?_getD, List.getElem?_eq_getElem h1, List.getElem?_eq_getElem h2] at this
  exact this
theorem Fit.okq {d m : List (List Nat)} {q M : Nat} (h : OkD d q) (hM : M ≤ 4) (hf : Fit m (enc d M)) : Okq d.length M q m :=
  ⟨h.d1, h.d8, hM, by rw [hf.len, enc_len], h.n1, h.n64, fun l hl => by
    obtain ⟨i, hi, rfl⟩ := List.mem_iff_getElem.1 hl
    have e : m.getD i [] = m[i] := getD_of (List.getElem?_eq_getElem hi)
    rcases hf.each i with h1 | h1
    · rw [e] at h1; exact .inl h1
    · rw [e] at h1; rw [h1]; exact .inr (len_getD (enc_rows h M) (by rw [← hf.len]; exact hi))⟩
/- the data come back -/
theorem data_back {d m : List (List Nat)} {q M : Nat} (h : OkD d q) (hb : ∀ l ∈ d, Byt l) (hM : M ≤ 4) (hf : Fit m (enc d M)) (hl : lostN m ≤ M) : dataL d.length M m = d := by
  have hq := hf.okq h hM
  have hok := hq.ok hl
  have hsz := hq.size hl
  have ce := cho_enough hok.len hl
  have d8 := h.d8
  have sr := solR_rows hok hl
  have lo : ∀ i, i < d.length → (m.getD i []).length = 0 ∨ m.getD i [] = d.getD i [] := fun i hi => by
    have := hf.each i
    rwa [enc_lo hi] at this
  have g4 : (goneL d.length m).length ≤ 4 := by
    have h1 : (goneL d.length m).length = lostN (m.take d.length) := lostL_count _ (by have := hok.len; omega)
    have := lost_split d.length m
    omega
  generalize hg : (goneL d.length m).length = g at *
  generalize hc : choTo d.length m g M = cho at *
  have cs : cho ∈ subs 4 g := by
    have := choTo_subs d.length m g M
    rw [hc, ce] at this
    exact subs_le this hM
  have gs : goneL d.length m ∈ subs d.length g := by
    have := lostL_subs m d.length
    unfold goneL at hg ⊢
    rwa [hg] at this
  obtain ⟨hu, _⟩ := allOk_out (all_ok h.d1 d8 g4) gs cs ce
  have em : matM d.length m cho = cauM d.length (goneL d.length m) cho := rfl
  have bM : ∀ l ∈ matM d.length m cho, Byt l := fun l hl => by
    simp only [matM, List.mem_map] at hl
    obtain ⟨j, hj, rfl⟩ := hl
    intro x hx
    obtain ⟨i, hi, rfl⟩ := List.mem_map.1 hx
    have hj' := ((choTo_le d.length m g M).2.2 j (by rw [hc]; exact hj)).1
    obtain ⟨k, hk⟩ := List.mem_iff_getElem?.1 hi
    have := (lostL_rank _ hk).1
    exact fac_lt (by omega) (by omega)
  have rR : ∀ l ∈ matR d.length m cho, l.length = q := fun l hl => by
    simp only [matR, List.mem_map] at hl
    obtain ⟨j, hj, rfl⟩ := hl
    obtain ⟨hj1, hj2⟩ := (choTo_le d.length m g M).2.2 j (by rw [hc]; exact hj)
    unfold syn
    rw [synTo_len]
    rcases hf.each (d.length + j) with h1 | h1
    · exact absurd h1 hj2
    · rw [h1, enc_hi hj1, par_len h]
  have key : ∀ i, i < d.length → (m.getD i []).length = 0 → (solR d.length M m).getD (lostL m i).length [] = d.getD i [] := fun i hi h0 => by
    have hlt : (lostL m i).length < g := by rw [← hg]; exact lostL_lt hi h0
    refine row_ext (q := q) (by rw [len_getD sr.2 (by rw [sr.1]; exact hlt)]; exact hsz) (len_getD h.each hi) fun t ht => ?_
    let x : Nat → Nat := fun k => (d.getD ((lostL m d.length).getD k 0) []).getD t 0
    have hx : ∀ k, x k < 256 := fun k => Byt.getD_ (rows_getD hb Byt.nil _) t
    have hxi : ∀ i, i < d.length → (m.getD i []).length = 0 → x (lostL m i).length = (d.getD i []).getD t 0 := fun i hi h0 => by
      show (d.getD ((lostL m d.length).getD _ 0) []).getD t 0 = _
      rw [List.getD_eq_getElem?_getD (l := lostL m d.length), lostL_place h0 _ hi]; rfl
    have so : Sol (matM d.length m cho) (matR d.length m cho) x t g := fun r hr => by
      obtain ⟨j, hj⟩ := get_some (show r < cho.length by rw [ce]; exact hr)
      obtain ⟨hj1, hj2⟩ := (choTo_le d.length m g M).2.2 j (by rw [hc]; exact List.mem_of_getElem? hj)
      have e1 : (matM d.length m cho).getD r [] = (goneL d.length m).map (fac d.length j) := getD_of (by simp [matM, hj])
      have e2 : (matR d.length m cho).getD r [] = syn d.length m j := getD_of (by simp [matR, hj])
      have e3 : m.getD (d.length + j) [] = par d j := by
        rcases hf.each (d.length + j) with h1 | h1
        · exact absurd h1 hj2
        · rw [h1, enc_hi hj1]
      rw [e1, e2]
      unfold syn
      rw [synTo_getD (by rw [e3, par_len h]; exact ht), e3]
      unfold par
      rw [parTo_getD (by rw [okd_len h]; exact ht)]
      rw [← hg]
      exact (sum_lost lo hxi _ (Nat.le_refl _)).symm
    have fin := gjTo_sol (by rw [matM_len, ce]) (by rw [matR_len, ce]) (fun l hl => by rw [← hg]; exact matM_rows _ _ _ l hl) rR bM hx ht so g (Nat.le_refl _)
    rw [gjTo_fst _ _ [], em, hu] at fin
    have := sol_unit hx fin hlt
    rw [hxi i hi h0] at this
    unfold solR
    rw [hg, hc]
    exact this
  apply List.ext_getElem?
  intro i
  by_cases hi : i < d.length
  · rw [dataL_at hi, getD_get hi]
    by_cases h0 : (m.getD i []).length = 0
    · rw [if_pos h0, key i hi h0]
    · rw [if_neg h0, (lo i hi).resolve_left h0]
  · rw [List.getElem?_eq_none (by rw [dataL_len]; omega), List.getElem?_eq_none (by omega)]
end Go.Proofs.Ytmpmeeacdllomaa
