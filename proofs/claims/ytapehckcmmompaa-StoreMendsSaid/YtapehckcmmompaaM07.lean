/- Several texts in one. -/
import Derived.Test.YtapehckcmmompaaM06
namespace Go.Proofs.Ytapehckcmmompaa
open Gf
set_option linter.unusedVariables false
set_option maxRecDepth 100000
theorem cntP_mono {p p' : Nat → Bool} : ∀ {n : Nat}, (∀ i, i < n → p i = true → p' i = true) → cntP p n ≤ cntP p' n
 | 0, _ => Nat.le_refl _
 | n + 1, h => by
  have ih := cntP_mono (n := n) (p := p) (p' := p') (fun i hi => h i (by omega))
  rw [cntP_succ, cntP_succ]
  cases e : p n with
  | false => rw [if_neg (by decide)]; omega
  | true => rw [h n (by omega) e]; omega
theorem cntP_one {k : Nat} : ∀ {n : Nat}, k < n → cntP (fun i => decide (i = k)) n = 1 := fun {n} h => by
 have := cntP_more (p := fun _ => false) (k := k) rfl h
 rw [cntP_none] at this
 exact (cntP_congr fun i _ => by simp).trans this
theorem cntP_one_le (k n : Nat) : cntP (fun i => decide (i = k)) n ≤ 1 := by
 rcases Nat.lt_or_ge k n with h | h
 ·rw [cntP_one h]; exact Nat.le_refl _
 ·rw [cntP_congr (p' := fun _ => false) (fun i hi => decide_eq_false (by omega)), cntP_none]; omega
theorem cntP_two {k k' n : Nat} (h : k < n) (h' : k' < n) (hne : k ≠ k') : cntP (fun i => decide (i = k) || decide (i = k')) n = 2 := by
 rw [cntP_more (p := fun i => decide (i = k')) (decide_eq_false hne) h, cntP_one h']
theorem cntP_two_le (k k' n : Nat) : cntP (fun i => decide (i = k) || decide (i = k')) n ≤ 2 := by
 induction n with
 | zero => simp [cntP]
 | succ n ih =>
  rcases Nat.lt_or_ge k (n + 1) with h | h
  ·rcases Nat.lt_or_ge k' (n + 1) with h' | h'
   ·by_cases e : k = k'
    ·subst e
     rw [cntP_congr (p' := fun i => decide (i = k)) (fun i _ => by simp), cntP_one h]; omega
    ·rw [cntP_two h h' e]; omega
   ·rw [cntP_congr (p' := fun i => decide (i = k)) (fun i hi => by rw [decide_eq_false (show ¬ i = k' by omega), Bool.or_false])]
    have := cntP_one_le k (n + 1); omega
  ·rw [cntP_congr (p' := fun i => decide (i = k')) (fun i hi => by rw [decide_eq_false (show ¬ i = k by omega), Bool.false_or])]
   have := cntP_one_le k' (n + 1); omega
theorem far_same {d d' : List (List Nat)} {q M : Nat} (h : OkD d q) (hb : ∀ l ∈ d, Byt l) (h' : OkD d' q) (hb' : ∀ l ∈ d', Byt l) (hl : d.length = d'.length) (hM : M ≤ 4)
  (hc : cntP (fun i => !decide ((enc d M).getD i [] = (enc d' M).getD i [])) (enc d M).length ≤ M) : d = d' := by
 have f1 := keepL_fit (enc d M) (fun i => !decide ((enc d M).getD i [] = (enc d' M).getD i []))
 have lo := keepL_lost (p := fun i => !decide ((enc d M).getD i [] = (enc d' M).getD i [])) (enc_rows h M) h.n1
 have f2 : Fit (keepL (enc d M) (fun i => !decide ((enc d M).getD i [] = (enc d' M).getD i []))) (enc d' M) := ⟨by rw [keepL_len, enc_len, enc_len, hl], fun i => by
  rw [keepL_getD]
  split
  ·exact .inl rfl
  ·rename_i hp
   exact .inr (by simpa using hp)⟩
 have e1 := data_back h hb hM f1 (by omega)
 have e2 := data_back h' hb' hM f2 (by omega)
 rw [hl] at e1
 rw [← e1, e2]
def chgL (l : List Nat) (at' y : Nat) : List Nat := l.set at' (l.getD at' 0 ^^^ y)
def chg (m : List (List Nat)) (k at' y : Nat) : List (List Nat) := m.set k (chgL (m.getD k []) at' y)
theorem chgL_len (l : List Nat) (a y : Nat) : (chgL l a y).length = l.length := by simp [chgL]
theorem chg_len (m : List (List Nat)) (k a y : Nat) : (chg m k a y).length = m.length := by simp [chg]
theorem chgL_getD {l : List Nat} {a y t : Nat} (ha : a < l.length) : (chgL l a y).getD t 0 = if t = a then l.getD a 0 ^^^ y else l.getD t 0 := by
 simp only [chgL, List.getD_eq_getElem?_getD, List.getElem?_set]
 by_cases e : a = t
 ·subst e; rw [if_pos rfl, if_pos rfl, if_pos ha]; rfl
 ·rw [if_neg e, if_neg (fun e' => e e'.symm)]
theorem chg_getD {m : List (List Nat)} {k a y i : Nat} (hk : k < m.length) : (chg m k a y).getD i [] = if i = k then chgL (m.getD k []) a y else m.getD i [] := by
 simp only [chg, List.getD_eq_getElem?_getD, List.getElem?_set]
 by_cases e : k = i
 ·subst e; rw [if_pos rfl, if_pos rfl, if_pos hk]; rfl
 ·rw [if_neg e, if_neg (fun e' => e e'.symm)]
theorem chgL_byt {l : List Nat} {a y : Nat} (h : Byt l) (hy : y < 256) : Byt (chgL l a y) := h.set_ a (xor_lt (h.getD_ a) hy)
theorem chg_byt {m : List (List Nat)} {k a y : Nat} (h : ∀ l ∈ m, Byt l) (hy : y < 256) : ∀ l ∈ chg m k a y, Byt l := fun l hl => by
 rcases List.mem_or_eq_of_mem_set hl with h1 | rfl
 ·exact h l h1
 ·exact chgL_byt (rows_getD h Byt.nil k) hy
theorem chg_rows {m : List (List Nat)} {k a y q : Nat} (h : ∀ l ∈ m, l.length = q) (hk : k < m.length) : ∀ l ∈ chg m k a y, l.length = q := fun l hl => by
 rcases List.mem_or_eq_of_mem_set hl with h1 | rfl
 ·exact h l h1
 ·rw [chgL_len]; exact len_getD h hk
theorem xor_ne_self {x y : Nat} (hy : y ≠ 0) : x ^^^ y ≠ x := fun e => hy (by
 have := xor_xor_self x y
 rw [e, Nat.xor_self] at this
 exact this.symm)
theorem chgL_ne {l : List Nat} {a y : Nat} (ha : a < l.length) (hy : y ≠ 0) : chgL l a y ≠ l := fun e => by
 have := chgL_getD (y := y) (t := a) ha
 rw [if_pos rfl, e] at this
 exact xor_ne_self hy this.symm
theorem OkD.chg_ {d : List (List Nat)} {q k a y : Nat} (h : OkD d q) (hk : k < d.length) : OkD (chg d k a y) q := ⟨by rw [chg_len]; exact h.d1, by rw [chg_len]; exact h.d8, h.n1, h.n64, chg_rows h.each hk⟩
theorem par_chg {d : List (List Nat)} {q k a y j : Nat} (h : OkD d q) (hb : ∀ l ∈ d, Byt l) (hk : k < d.length) (ha : a < q) : par (chg d k a y) j = chgL (par d j) a (gm (fac d.length j k) y) := by
 have hd := h.chg_ (a := a) (y := y) hk
 refine row_ext (par_len hd j) (by rw [chgL_len, par_len h]) fun t ht => ?_
 rw [chgL_getD (by rw [par_len h]; exact ha)]
 have e : ∀ t, t < q → (par d j).getD t 0 = sumN (fun k => gm (fac d.length j k) ((d.getD k []).getD t 0)) d.length := fun t ht => parTo_getD (by rw [okd_len h]; exact ht) _
 have e' : (par (chg d k a y) j).getD t 0 = sumN (fun i => gm (fac d.length j i) (((chg d k a y).getD i []).getD t 0)) d.length := by
  have := parTo_getD (d := chg d k a y) (j := j) (t := t) (by rw [okd_len hd]; exact ht) (chg d k a y).length
  rw [chg_len] at this
  unfold par
  rw [chg_len]
  exact this
 rw [e']
 by_cases c : t = a
 ·subst c
  rw [if_pos rfl, e t ht]
  have s := sumN_xor (fun i => gm (fac d.length j i) ((d.getD i []).getD t 0)) (fun i => if i = k then gm (fac d.length j k) y else 0) d.length
  rw [sumN_one (f := fun i => if i = k then gm (fac d.length j k) y else 0) hk (fun i _ hne => if_neg hne)] at s
  simp only [if_true] at s
  rw [← s]
  refine sumN_congr fun i hi => ?_
  rw [chg_getD hk]
  by_cases ci : i = k
  ·subst ci
   rw [if_pos rfl, if_pos rfl, chgL_getD (by rw [len_getD h.each hk]; exact ha), if_pos rfl, gm_xor_right]
  ·rw [if_neg ci, if_neg ci, Nat.xor_zero]
 ·rw [if_neg c, e t ht]
  refine sumN_congr fun i hi => ?_
  rw [chg_getD hk]
  by_cases ci : i = k
  ·subst ci
   rw [if_pos rfl, chgL_getD (by rw [len_getD h.each hk]; exact ha), if_neg c]
  ·rw [if_neg ci]
structure Wrong (d : List (List Nat)) (q M k a y : Nat) : Prop where
 ok : OkD d q
 byt : ∀ l ∈ d, Byt l
 m4 : M ≤ 4
 k1 : k < d.length + M
 a1 : a < q
 y0 : y ≠ 0
 y1 : y < 256
section
variable {d : List (List Nat)} {q M k a y : Nat}
theorem Wrong.kl (h : Wrong d q M k a y) : k < (enc d M).length := by rw [enc_len]; exact h.k1
theorem Wrong.rows (h : Wrong d q M k a y) : ∀ l ∈ chg (enc d M) k a y, l.length = q := chg_rows (enc_rows h.ok M) h.kl
theorem Wrong.len (h : Wrong d q M k a y) : (chg (enc d M) k a y).length = d.length + M := by rw [chg_len, enc_len]
theorem Wrong.size (h : Wrong d q M k a y) : szL (chg (enc d M) k a y) = q := szL_rows h.rows (by rw [h.len]; have := h.ok.d1; omega) h.ok.n1
theorem Wrong.okS (h : Wrong d q M k a y) : Ok d.length M (chg (enc d M) k a y) :=
 ⟨h.ok.d1, h.ok.d8, h.m4, h.len, by rw [h.size]; exact h.ok.n1, by rw [h.size]; exact h.ok.n64, fun l hl => .inr (by rw [h.size]; exact h.rows l hl)⟩
theorem Wrong.lost (h : Wrong d q M k a y) : lostN (chg (enc d M) k a y) = 0 := lostN_rows h.rows h.ok.n1
theorem Wrong.bytS (h : Wrong d q M k a y) : ∀ l ∈ chg (enc d M) k a y, Byt l := chg_byt (enc_byt h.ok h.byt h.m4) h.y1
theorem Wrong.ne (h : Wrong d q M k a y) : (chg (enc d M) k a y).getD k [] ≠ (enc d M).getD k [] := by
 rw [chg_getD h.kl, if_pos rfl]
 exact chgL_ne (by rw [len_getD (enc_rows h.ok M) h.kl]; exact h.a1) h.y0
theorem Wrong.other (h : Wrong d q M k a y) {i : Nat} (hi : i ≠ k) : (chg (enc d M) k a y).getD i [] = (enc d M).getD i [] := by
 rw [chg_getD h.kl, if_neg hi]
theorem Wrong.far (h : Wrong d q M k a y) {d' : List (List Nat)} {k' : Nat} (h' : OkD d' q) (hb' : ∀ l ∈ d', Byt l) (hl : d'.length = d.length) (hM : 2 ≤ M ∨ k' = k ∧ 1 ≤ M)
  (hf : ∀ i, i < d.length + M → i ≠ k' → (chg (enc d M) k a y).getD i [] = (enc d' M).getD i []) (hk : k' ≠ k ∨ (chg (enc d M) k a y).getD k [] = (enc d' M).getD k []) : False := by
 have e : d = d' := by
  refine far_same h.ok h.byt h' hb' hl.symm h.m4 ?_
  have hle : cntP (fun i => !decide ((enc d M).getD i [] = (enc d' M).getD i [])) (enc d M).length ≤ cntP (fun i => decide (i = k) || decide (i = k')) (enc d M).length := by
   refine cntP_mono fun i hi hp => ?_
   by_cases c1 : i = k
   ·rw [decide_eq_true c1]; rfl
   by_cases c2 : i = k'
   ·rw [decide_eq_true c2, Bool.or_true]
   ·have := hf i (by rw [enc_len] at hi; exact hi) c2
    rw [h.other c1] at this
    have hp' : (!decide ((enc d M).getD i [] = (enc d' M).getD i [])) = true := hp
    rw [this, decide_eq_true rfl] at hp'
    cases hp'
  rcases hM with hM | ⟨hM, h1⟩
  ·exact Nat.le_trans hle (Nat.le_trans (cntP_two_le k k' _) hM)
  ·subst hM
   have : cntP (fun i => decide (i = k') || decide (i = k')) (enc d M).length ≤ 1 := by
    rw [cntP_congr (p' := fun i => decide (i = k')) (fun i _ => by simp)]; exact cntP_one_le _ _
   omega
 subst e
 rcases hk with hk | hk
 ·exact h.ne (hf k h.k1 (fun e => hk e.symm))
 ·exact h.ne hk
theorem Wrong.takeOk (h : Wrong d q M k a y) : OkD ((chg (enc d M) k a y).take d.length) q ∧ (∀ l ∈ (chg (enc d M) k a y).take d.length, Byt l) ∧ ((chg (enc d M) k a y).take d.length).length = d.length := by
 have hl : ((chg (enc d M) k a y).take d.length).length = d.length := by rw [List.length_take, h.len]; omega
 exact ⟨⟨by rw [hl]; exact h.ok.d1, by rw [hl]; exact h.ok.d8, h.ok.n1, h.ok.n64, fun l hm => h.rows l (List.mem_of_mem_take hm)⟩, fun l hm => h.bytS l (List.mem_of_mem_take hm), hl⟩
theorem Wrong.notSound (h : Wrong d q M k a y) (hM : 1 ≤ M) : enc ((chg (enc d M) k a y).take d.length) M ≠ chg (enc d M) k a y := fun e => by
 obtain ⟨t1, t2, t3⟩ := h.takeOk
 exact h.far t1 t2 t3 (k' := k) (.inr ⟨rfl, hM⟩) (fun i hi hne => by rw [e]) (.inr (by rw [e]))
theorem Wrong.sound0 (h : Wrong d q 0 k a y) : sndB d.length 0 (chg (enc d 0) k a y) = true := by
 rw [sndB_eq h.okS]
 unfold rsB
 rw [h.lost, decide_eq_true rfl, Bool.true_and, decide_eq_true_eq]
 unfold enc
 simp only [List.range_zero, List.map_nil, List.append_nil]
 rw [List.take_of_length_le (by rw [chg_len]; exact Nat.le_refl _)]
theorem Wrong.sound1 (h : Wrong d q M k a y) (hM : 1 ≤ M) : sndB d.length M (chg (enc d M) k a y) = false := by
 rw [sndB_eq h.okS]
 unfold rsB
 rw [h.lost, decide_eq_true rfl, Bool.true_and, decide_eq_false (h.notSound hM)]
theorem Wrong.rst (h : Wrong d q M k a y) (hM : 1 ≤ M) : rstE d.length M (chg (enc d M) k a y) = 30 := by
 unfold rstE
 rw [h.lost, if_neg (by omega), dataL_whole h.lost (by rw [h.len]; omega), fitB_whole h.lost (by rw [enc_len, h.takeOk.2.2, h.len]), decide_eq_false (h.notSound hM), if_neg (by decide)]
theorem Wrong.res (h : Wrong d q M k a y) (hM : 1 ≤ M) : resE d.length M (chg (enc d M) k a y) = 30 := by
 unfold resE
 rw [ok_chkE h.okS, if_pos rfl, Int.toNat_natCast, Int.toNat_natCast, h.rst hM]
theorem Wrong.outLost (h : Wrong d q M k a y) (k' : Nat) : lostN (keepL (chg (enc d M) k a y) (oneB k')) ≤ 1 := by
 rw [keepL_lost h.rows h.ok.n1]
 exact cntP_one_le k' _
theorem Wrong.outAt (h : Wrong d q M k a y) (hM : 1 ≤ M) : rstE d.length M (keepL (chg (enc d M) k a y) (oneB k)) = 0 := by
 refine rst_back h.ok h.byt h.m4 ⟨by rw [keepL_len, chg_len], fun i => ?_⟩ (Nat.le_trans (h.outLost k) hM)
 rw [keepL_getD]
 by_cases e : i = k
 ·rw [if_pos (by unfold oneB; exact decide_eq_true e)]; exact .inl rfl
 ·rw [if_neg (by unfold oneB; rw [decide_eq_false e]; decide), h.other e]; exact .inr rfl
end
theorem solR_byt {D M : Nat} {m : List (List Nat)} (h : Ok D M m) (hb : ∀ l ∈ m, Byt l) : ∀ l ∈ solR D M m, Byt l := by
 have d8 := h.d8
 have m4 := h.m4
 refine gjTo_bytR (fun l hl => ?_) (fun l hl => ?_) _
 ·simp only [matM, List.mem_map] at hl
  obtain ⟨j, hj, rfl⟩ := hl
  intro x hx
  obtain ⟨i, hi, rfl⟩ := List.mem_map.1 hx
  have hj' := ((choTo_le D m (goneL D m).length M).2.2 j hj).1
  obtain ⟨k, hk⟩ := List.mem_iff_getElem?.1 hi
  have := (lostL_rank _ hk).1
  exact fac_lt (by omega) (by omega)
 ·simp only [matR, List.mem_map] at hl
  obtain ⟨j, hj, rfl⟩ := hl
  have hj' := ((choTo_le D m (goneL D m).length M).2.2 j hj).1
  exact synTo_byt hb d8 (by omega) (by rw [h.len]; omega) D (Nat.le_refl _)
theorem dataL_byt {D M : Nat} {m : List (List Nat)} (h : Ok D M m) (hb : ∀ l ∈ m, Byt l) : ∀ l ∈ dataL D M m, Byt l := fun l hl => by
 simp only [dataL, List.mem_map, List.mem_range] at hl
 obtain ⟨i, hi, rfl⟩ := hl
 split
 ·exact rows_getD (solR_byt h hb) Byt.nil _
 ·exact rows_getD hb Byt.nil _
theorem keepL_byt {m : List (List Nat)} {p : Nat → Bool} (hb : ∀ l ∈ m, Byt l) : ∀ l ∈ keepL m p, Byt l := fun l hl => by
 simp only [keepL, List.mem_map, List.mem_range] at hl
 obtain ⟨i, hi, rfl⟩ := hl
 split
 ·exact Byt.nil
 ·exact rows_getD hb Byt.nil _
section
variable {d : List (List Nat)} {q M k a y : Nat}
theorem Wrong.outOther (h : Wrong d q M k a y) {k' : Nat} (hM : 2 ≤ M) (hne : k' ≠ k) : rstE d.length M (keepL (chg (enc d M) k a y) (oneB k')) ≠ 0 := fun e => by
 have hl := h.outLost k'
 have hq : Okq d.length M q (keepL (chg (enc d M) k a y) (oneB k')) := ⟨h.ok.d1, h.ok.d8, h.m4, by rw [keepL_len, h.len], h.ok.n1, h.ok.n64, fun l hl => by
  simp only [keepL, List.mem_map, List.mem_range] at hl
  obtain ⟨i, hi, rfl⟩ := hl
  split
  ·exact .inl rfl
  ·exact .inr (len_getD h.rows hi)⟩
 have hok := hq.ok (by omega)
 have hsz := hq.size (by omega)
 unfold rstE at e
 rw [if_neg (by omega)] at e
 by_cases hf : fitB (keepL (chg (enc d M) k a y) (oneB k')) (enc (dataL d.length M (keepL (chg (enc d M) k a y) (oneB k'))) M) = true
 ·have dl := dataL_len d.length M (keepL (chg (enc d M) k a y) (oneB k'))
  refine h.far (d' := dataL d.length M (keepL (chg (enc d M) k a y) (oneB k'))) (k' := k') ⟨by rw [dl]; exact h.ok.d1, by rw [dl]; exact h.ok.d8, h.ok.n1, h.ok.n64, fun l hl => by rw [dataL_rows hok (by omega) l hl, hsz]⟩ (dataL_byt hok (keepL_byt h.bytS)) dl (.inl hM) (fun i hi hne => ?_) (.inl hne)
  obtain ⟨l, h1⟩ := get_some (show i < (keepL (chg (enc d M) k a y) (oneB k')).length by rw [keepL_len, h.len]; exact hi)
  obtain ⟨l', h2⟩ := get_some (show i < (enc (dataL d.length M (keepL (chg (enc d M) k a y) (oneB k'))) M).length by rw [enc_len, dl]; exact hi)
  have e1 : (keepL (chg (enc d M) k a y) (oneB k')).getD i [] = (chg (enc d M) k a y).getD i [] := by
   rw [keepL_getD, if_neg (by unfold oneB; rw [decide_eq_false hne]; decide)]
  have e2 : l.length = q := by
   rw [← getD_of h1, e1]; exact len_getD h.rows (by rw [h.len]; exact hi)
  rcases fitB_out hf h1 h2 with h3 | h3
  ·have := h.ok.n1; omega
  ·rw [← e1, getD_of h1, getD_of h2, h3]
 ·rw [if_neg hf] at e; cases e
theorem fndTo_cnt (D M : Nat) (m : List (List Nat)) : ∀ n, (fndTo D M m n).2 = cntP (fun k => decide (rstE D M (keepL m (oneB k)) = 0)) n
 | 0 => rfl
 | n + 1 => by
  rw [cntP_succ, ← fndTo_cnt D M m n, fndTo]
  by_cases e : rstE D M (keepL m (oneB n)) = 0
  ·rw [if_pos e, if_pos (decide_eq_true e)]
  ·rw [if_neg e, if_neg (by rw [decide_eq_false e]; decide)]; rfl
theorem fndTo_one {D M k : Nat} {m : List (List Nat)} (h : ∀ i, rstE D M (keepL m (oneB i)) = 0 ↔ i = k) : ∀ n, fndTo D M m n = if k < n then (k, 1) else (0, 0)
 | 0 => rfl
 | n + 1 => by
  rw [fndTo, fndTo_one h n]
  by_cases e : n = k
  ·subst e
   rw [if_pos ((h n).2 rfl), if_neg (by omega), if_pos (by omega)]
  ·rw [if_neg (fun e' => e ((h n).1 e'))]
   by_cases c : k < n
   ·rw [if_pos c, if_pos (by omega)]
   ·rw [if_neg c, if_neg (by omega)]
theorem Wrong.find2 (h : Wrong d q M k a y) (hM : 2 ≤ M) : fndV d.length M (chg (enc d M) k a y) = ((k : Int), 0) := by
 have F := fndTo_one (D := d.length) (M := M) (k := k) (m := chg (enc d M) k a y) (fun i => ⟨fun e => by
   by_cases c : i = k
   ·exact c
   ·exact absurd e (h.outOther hM c), fun e => by rw [e]; exact h.outAt (by omega)⟩) (chg (enc d M) k a y).length
 rw [if_pos (by rw [h.len]; exact h.k1)] at F
 unfold fndV
 rw [ok_chkE h.okS, if_neg (by decide), h.lost, if_neg (by omega), Int.toNat_natCast, Int.toNat_natCast, h.sound1 (by omega), if_neg (by decide), F, if_neg (by simp)]
theorem Wrong.find0 (h : Wrong d q 0 k a y) : fndV d.length 0 (chg (enc d 0) k a y) = (-1, 0) := by
 have c := ok_chkE h.okS
 unfold fndV
 rw [show ((0 : Nat) : Int) = 0 from rfl] at c
 rw [c, if_neg (by decide), h.lost, if_neg (by omega), Int.toNat_natCast]
 show (if sndB d.length 0 _ = true then _ else _) = _
 rw [h.sound0, if_pos rfl]
theorem Wrong.outPar (h : Wrong d q 1 k a y) (hk : k ≠ d.length) : rstE d.length 1 (keepL (chg (enc d 1) k a y) (oneB d.length)) = 0 := by
 obtain ⟨t1, t2, t3⟩ := h.takeOk
 have := rst_back (m := keepL (chg (enc d 1) k a y) (oneB d.length)) t1 t2 (M := 1) (by omega) ⟨by rw [keepL_len, enc_len, t3, h.len], fun i => ?_⟩ (h.outLost _)
 ·rw [t3] at this; exact this
 rw [keepL_getD]
 by_cases e : i = d.length
 ·rw [if_pos (by unfold oneB; exact decide_eq_true e)]; exact .inl rfl
 rw [if_neg (by unfold oneB; rw [decide_eq_false e]; decide)]
 rcases Nat.lt_or_ge i d.length with hi | hi
 ·right
  rw [enc_lo (by rw [t3]; exact hi), List.getD_eq_getElem?_getD, List.getD_eq_getElem?_getD, List.getElem?_take, if_pos hi]
 ·left
  rw [List.getD_eq_getElem?_getD, List.getElem?_eq_none (by rw [h.len]; omega)]; rfl
theorem Wrong.outData (h : Wrong d q 1 d.length a y) : rstE d.length 1 (keepL (chg (enc d 1) d.length a y) (oneB 0)) = 0 := by
 have d1 := h.ok.d1
 have d8 := h.ok.d8
 have fl : fac d.length 0 0 < 256 := fac_lt (by omega) (by omega)
 have xn : (d.length + 0) ^^^ 0 ≠ 0 := by rw [Nat.xor_zero]; omega
 have f0 : fac d.length 0 0 ≠ 0 := by
  have := gi_pos xn (by rw [Nat.xor_zero]; omega)
  unfold fac; omega
 have hp := par_chg (k := 0) (a := a) (y := gm (gi (fac d.length 0 0)) y) (j := 0) h.ok h.byt (by omega) h.a1
 rw [← gm_assoc fl (gi_lt fl) h.y1, gm_gi f0 fl, gm_one_left h.y1] at hp
 have ho := h.ok.chg_ (k := 0) (a := a) (y := gm (gi (fac d.length 0 0)) y) (by omega)
 have := rst_back (m := keepL (chg (enc d 1) d.length a y) (oneB 0)) ho (chg_byt h.byt (gm_lt (gi_lt fl))) (M := 1) (by omega) ⟨by rw [keepL_len, h.len, enc_len, chg_len], fun i => ?_⟩ (h.outLost _)
 ·rw [chg_len] at this; exact this
 rw [keepL_getD]
 by_cases e : i = 0
 ·rw [if_pos (by unfold oneB; exact decide_eq_true e)]; exact .inl rfl
 rw [if_neg (by unfold oneB; rw [decide_eq_false e]; decide)]
 rcases Nat.lt_or_ge i d.length with hi | hi
 ·right
  rw [h.other (by omega), enc_lo hi, enc_lo (by rw [chg_len]; exact hi), chg_getD (by omega), if_neg e]
 ·by_cases c : i = d.length
  ·subst c
   right
   have e1 := enc_hi (d := d) (M := 1) (j := 0) (by omega)
   have e2 := enc_hi (d := chg d 0 a (gm (gi (fac d.length 0 0)) y)) (M := 1) (j := 0) (by omega)
   rw [chg_len] at e2
   rw [Nat.add_zero] at e1 e2
   rw [chg_getD h.kl, if_pos rfl, e1, e2, hp]
  ·left
   rw [List.getD_eq_getElem?_getD, List.getElem?_eq_none (by rw [h.len]; omega)]; rfl
theorem Wrong.find1 (h : Wrong d q 1 k a y) : fndV d.length 1 (chg (enc d 1) k a y) = (0, 6) := by
 have d1 := h.ok.d1
 have k1 := h.k1
 have two : 2 ≤ (fndTo d.length 1 (chg (enc d 1) k a y) (chg (enc d 1) k a y).length).2 := by
  rw [fndTo_cnt, h.len]
  by_cases c : k = d.length
  ·subst c
   rw [← cntP_two (k := d.length) (k' := 0) (n := d.length + 1) (by omega) (by omega) (by omega)]
   refine cntP_mono fun i hi hp => ?_
   rw [Bool.or_eq_true, decide_eq_true_eq, decide_eq_true_eq] at hp
   rcases hp with hp | hp
   ·subst hp; exact decide_eq_true (h.outAt (by omega))
   ·subst hp; exact decide_eq_true h.outData
  ·rw [← cntP_two (k := k) (k' := d.length) (n := d.length + 1) (by omega) (by omega) c]
   refine cntP_mono fun i hi hp => ?_
   rw [Bool.or_eq_true, decide_eq_true_eq, decide_eq_true_eq] at hp
   rcases hp with hp | hp
   ·subst hp; exact decide_eq_true (h.outAt (by omega))
   ·subst hp; exact decide_eq_true (h.outPar c)
 have ck := ok_chkE h.okS
 rw [show ((1 : Nat) : Int) = 1 from rfl] at ck
 unfold fndV
 rw [ck, if_neg (by decide), h.lost, if_neg (by omega), Int.toNat_natCast]
 show (if sndB d.length 1 _ = true then _ else if (fndTo d.length 1 _ _).2 ≠ 1 then _ else _) = _
 rw [h.sound1 (by omega), if_neg (by decide), if_pos (by omega)]
theorem enc_find (h : OkD d q) (hM : M ≤ 4) : fndV d.length M (enc d M) = (-1, 0) := by
 unfold fndV
 rw [enc_chk h hM, if_neg (by decide), lostN_rows (enc_rows h M) h.n1, if_neg (by omega), Int.toNat_natCast, Int.toNat_natCast, enc_sound h hM, if_pos rfl]
end
end Go.Proofs.Ytapehckcmmompaa
