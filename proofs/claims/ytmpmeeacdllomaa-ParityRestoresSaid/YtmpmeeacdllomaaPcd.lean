/- Plain laws of layer 45: a sound stripe, without some blocks, is restored; what Lose and Restore answer there. -/
import Derived.Test.YtmpmeeacdllomaaPcc
namespace Go.Proofs.Ytmpmeeacdllomaa
open Gf
set_option linter.unusedVariables false

theorem szL_rows {m : List (List Nat)} {q : Nat} (h : ∀ l ∈ m, l.length = q) (h0 : 0 < m.length) (hq : 1 ≤ q) : szL m = q := by
  obtain ⟨l, hl⟩ := get_some h0
  have e := h l (List.mem_of_getElem? hl)
  rw [szL_at hl (by omega) (fun j l' hj => by omega), e]
theorem lostN_rows {m : List (List Nat)} {q : Nat} (h : ∀ l ∈ m, l.length = q) (hq : 1 ≤ q) : lostN m = 0 := by
  induction m with
  | nil => rfl
  | cons x m ih =>
    simp only [lostN]
    rw [ih fun l hl => h l (List.mem_cons_of_mem _ hl), if_neg (by rw [h x List.mem_cons_self]; omega)]
theorem enc_ok {d : List (List Nat)} {q M : Nat} (h : OkD d q) (hM : M ≤ 4) : Ok d.length M (enc d M) := by
  have e := szL_rows (enc_rows h M) (by rw [enc_len]; have := h.d1; omega) h.n1
  exact ⟨h.d1, h.d8, hM, enc_len d M, by rw [e]; exact h.n1, by rw [e]; exact h.n64, fun l hl => .inr (by rw [e]; exact enc_rows h M l hl)⟩
theorem enc_take (d : List (List Nat)) (M : Nat) : (enc d M).take d.length = d := by simp [enc]
theorem enc_sound {d : List (List Nat)} {q M : Nat} (h : OkD d q) (hM : M ≤ 4) : sndB d.length M (enc d M) = true := by
  rw [sndB_eq (enc_ok h hM)]
  unfold rsB
  rw [lostN_rows (enc_rows h M) h.n1, enc_take, decide_eq_true rfl, decide_eq_true rfl]; rfl
theorem enc_chk {d : List (List Nat)} {q M : Nat} (h : OkD d q) (hM : M ≤ 4) : chkE d.length M (enc d M) = 0 := ok_chkE (enc_ok h hM)
theorem enc_sd {d : List (List Nat)} {q M : Nat} (h : OkD d q) (hM : M ≤ 4) : sdB d.length M (enc d M) = true := by
  unfold sdB
  rw [enc_chk h hM, decide_eq_true rfl, Int.toNat_natCast, Int.toNat_natCast, enc_sound h hM]; rfl
/- how many numbers below n -/
def cntP (p : Nat → Bool) (n : Nat) : Nat := ((List.range n).filter p).length
theorem cntP_succ (p : Nat → Bool) (n : Nat) : cntP p (n + 1) = cntP p n + if p n then 1 else 0 := by
  unfold cntP
  rw [List.range_succ, List.filter_append, List.length_append, List.filter_cons, List.filter_nil]
  split <;> rfl
theorem cntP_congr {p p' : Nat → Bool} : ∀ {n : Nat}, (∀ i, i < n → p i = p' i) → cntP p n = cntP p' n
  | 0, _ => rfl
  | n + 1, h => by rw [cntP_succ, cntP_succ, cntP_congr (fun i hi => h i (by omega)), h n (by omega)]
theorem cntP_more {p : Nat → Bool} {k : Nat} (hk : p k = false) : ∀ {n : Nat}, k < n → cntP (fun i => decide (i = k) || p i) n = cntP p n + 1
  | 0, h => by omega
  | n + 1, h => by
    rw [cntP_succ, cntP_succ]
    by_cases e : n = k
    · subst e
      rw [decide_eq_true rfl, Bool.true_or, if_pos rfl, hk, if_neg (by decide), cntP_congr (p' := p) (fun i hi => by rw [decide_eq_false (by omega), Bool.false_or])]
    · rw [cntP_more hk (by omega), decide_eq_false e, Bool.false_or]; omega
theorem cntP_none {n : Nat} : cntP (fun _ => false) n = 0 := by unfold cntP; simp
theorem goneB_cnt {n : Nat} : ∀ {ds : List Int}, inB n ds = true → ds.Nodup → cntP (goneB ds) n = ds.length
  | [], _, _ => (cntP_congr (p := goneB []) (p' := fun _ => false) (fun i _ => rfl)).trans cntP_none
  | x :: ds, h, hn => by
    have h' : (0 ≤ x ∧ x < (n : Int)) ∧ inB n ds = true := by
      unfold inB at h ⊢
      rw [List.all_cons, Bool.and_eq_true, Bool.and_eq_true, decide_eq_true_eq, decide_eq_true_eq] at h
      exact h
    obtain ⟨k, rfl⟩ := Int.eq_ofNat_of_zero_le h'.1.1
    rw [List.nodup_cons] at hn
    have e : goneB ds k = false := by
      cases hg : goneB ds k with
      | false => rfl
      | true =>
        unfold goneB at hg
        rw [List.any_eq_true] at hg
        obtain ⟨y, hy, e⟩ := hg
        rw [beq_iff_eq] at e
        subst e
        exact absurd hy hn.1
    rw [cntP_congr (p' := fun i => decide (i = k) || goneB ds i) (fun i _ => ?_), cntP_more e (by omega), goneB_cnt h'.2 hn.2]; rfl
    unfold goneB
    rw [List.any_cons]
    congr 1
    rw [Bool.eq_iff_iff]; simp; omega
theorem keepL_getD {m : List (List Nat)} {p : Nat → Bool} {i : Nat} : (keepL m p).getD i [] = if p i then [] else m.getD i [] := by
  by_cases h : i < m.length
  · exact getD_of (by simp only [keepL, List.getElem?_map, List.getElem?_range h, Option.map_some])
  · have e1 : m.getD i [] = [] := by rw [List.getD_eq_getElem?_getD, List.getElem?_eq_none (by omega)]; rfl
    have e2 : (keepL m p).getD i [] = [] := by rw [List.getD_eq_getElem?_getD, List.getElem?_eq_none (by rw [keepL_len]; omega)]; rfl
    rw [e1, e2]; split <;> rfl
theorem keepL_lost {m : List (List Nat)} {p : Nat → Bool} {q : Nat} (h : ∀ l ∈ m, l.length = q) (hq : 1 ≤ q) : lostN (keepL m p) = cntP p m.length := by
  have e := lostL_count (m := keepL m p) m.length (by rw [keepL_len]; exact Nat.le_refl _)
  rw [List.take_of_length_le (by rw [keepL_len]; exact Nat.le_refl _)] at e
  rw [← e]
  show cntP _ _ = _
  refine cntP_congr fun i hi => ?_
  rw [keepL_getD]
  cases hp : p i with
  | true => rw [if_pos rfl]; rfl
  | false =>
    rw [if_neg (by decide)]
    exact decide_eq_false (by rw [len_getD h hi]; omega)
theorem keepL_fit (m : List (List Nat)) (p : Nat → Bool) : Fit (keepL m p) m := ⟨keepL_len m p, fun i => by
  rw [keepL_getD]; split
  · exact .inl rfl
  · exact .inr rfl⟩
theorem Fit.fitB_ {m r : List (List Nat)} (h : Fit m r) : fitB m r = true := fitB_true h.len fun j l l' h1 h2 => by
  have := h.each j
  rw [getD_of h1, getD_of h2] at this
  exact this
/- a sound stripe without some blocks is restored as it was -/
theorem rst_back {d m : List (List Nat)} {q M : Nat} (h : OkD d q) (hb : ∀ l ∈ d, Byt l) (hM : M ≤ 4) (hf : Fit m (enc d M)) (hl : lostN m ≤ M) : rstE d.length M m = 0 := by
  unfold rstE
  rw [if_neg (by omega), data_back h hb hM hf hl, hf.fitB_, if_pos rfl]
theorem res_back {d m : List (List Nat)} {q M : Nat} (h : OkD d q) (hb : ∀ l ∈ d, Byt l) (hM : M ≤ 4) (hf : Fit m (enc d M)) (hl : lostN m ≤ M) :
    resE d.length M m = 0 ∧ resS d.length M m = ((d.length : Int), (M : Int), enc d M) := by
  have hok := (hf.okq h hM).ok hl
  have e : resE d.length M m = 0 := by
    unfold resE
    rw [ok_chkE hok, if_pos rfl, Int.toNat_natCast, Int.toNat_natCast, rst_back h hb hM hf hl]
  refine ⟨e, ?_⟩
  unfold resS
  rw [e, if_pos rfl, Int.toNat_natCast, Int.toNat_natCast, data_back h hb hM hf hl]
theorem res_lost {d m : List (List Nat)} {q M : Nat} (h : OkD d q) (hM : M ≤ 4) (hf : Fit m (enc d M)) (hl : M < lostN m) (hs : szL m ≠ 0) :
    resE d.length M m = 32 ∧ resS d.length M m = (0, 0, []) := by
  have hq := hf.okq h hM
  have hz : szL m = q := by
    obtain ⟨l, hl, e⟩ := szL_mem hs
    rcases hq.each l hl with h1 | h1 <;> omega
  have hok : Ok d.length M m := ⟨hq.d1, hq.d8, hq.m4, hq.len, by rw [hz]; exact hq.q1, by rw [hz]; exact hq.q64, fun l hl => by rw [hz]; exact hq.each l hl⟩
  have e : resE d.length M m = 32 := by
    unfold resE
    rw [ok_chkE hok, if_pos rfl, Int.toNat_natCast, Int.toNat_natCast]
    unfold rstE
    rw [if_pos hl]
  exact ⟨e, resS_err e (by decide)⟩
theorem lose_cases {d : List (List Nat)} {q M : Nat} (h : OkD d q) (hM : M ≤ 4) (ds : List Int) :
    (loseE d.length M (enc d M) ds = 2 ∨ loseE d.length M (enc d M) ds = 14 ∨ loseE d.length M (enc d M) ds = 32) ∨
    (loseE d.length M (enc d M) ds = 0 ∧ loseS d.length M (enc d M) ds = ((d.length : Int), (M : Int), keepL (enc d M) (goneB ds)) ∧ szL (keepL (enc d M) (goneB ds)) ≠ 0 ∧ lostN (keepL (enc d M) (goneB ds)) = ds.length) := by
  have hL : loseE d.length M (enc d M) ds = if inB (enc d M).length ds = false then 2 else if ds.Nodup then (if szL (keepL (enc d M) (goneB ds)) = 0 then 32 else 0) else 14 := by
    unfold loseE
    rw [if_neg (by rw [enc_chk h hM]; exact fun e => e rfl)]
  by_cases h1 : inB (enc d M).length ds = false
  · rw [hL, if_pos h1]; exact .inl (.inl rfl)
  by_cases h2 : ds.Nodup
  · by_cases h3 : szL (keepL (enc d M) (goneB ds)) = 0
    · rw [hL, if_neg h1, if_pos h2, if_pos h3]; exact .inl (.inr (.inr rfl))
    · have e : loseE d.length M (enc d M) ds = 0 := by rw [hL, if_neg h1, if_pos h2, if_neg h3]
      refine .inr ⟨e, ?_, h3, ?_⟩
      · unfold loseS; rw [e, if_pos rfl]
      · rw [keepL_lost (enc_rows h M) h.n1, goneB_cnt (by simpa using h1) h2]
  · rw [hL, if_neg h1, if_neg h2]; exact .inl (.inr (.inl rfl))
theorem encS_ok {d : List (List Nat)} {M : Int} (h : encE d M = 0) : encS d M = ((d.length : Int), M, enc d M.toNat) := by unfold encS; rw [h, if_pos rfl]
end Go.Proofs.Ytmpmeeacdllomaa
