/- Several texts in one. -/
import Derived.Deep.Matrix
import Derived.Deep.Slices
import Derived.Deep.Fields
import Derived.ChangeSlices
import Derived.ChangeSame
import Derived.ChangeArms
import Derived.Lib.SmallJoins
import Derived.Deep.DeepCutAuto
import Derived.StillTailTactics
import Derived.Test.YtapehckcmmompaaM04
import Derived.Test.YtapehckcmmompaaM06
namespace Go.Proofs.Ytapehckcmmompaa
open Gf
set_option linter.unusedVariables false
set_option maxRecDepth 100000
theorem cntP_mono {p p' : Nat → Bool} : ∀ {n : Nat}, (∀ i, i < n → p i = true → p' i = true) → cntP p n ≤ cntP p' n
 | 0, _ => Nat.le_refl _
 | n + 1, h => by
  have ih := cntP_mono (n := n) (p := p) (p' := p') (fun i hi => h i (by omega))
  rw [cntP_succ, cntP_succ]
  cases e : p n with
  | false => rw [if_neg (by decide)]; omega
  | true => rw [h n (by omega) e]; omega
theorem cntP_one {k : Nat} : ∀ {n : Nat}, k < n → cntP (fun i => decide (i = k)) n = 1 := fun {n} h => by
 have := cntP_more (p := fun _ => false) (k := k) rfl h
 rw [cntP_none] at this
 exact (cntP_congr fun i _ => by simp).trans this
theorem cntP_one_le (k n : Nat) : cntP (fun i => decide (i = k)) n ≤ 1 := by
 rcases Nat.lt_or_ge k n with h | h
 ·rw [cntP_one h]; exact Nat.le_refl _
 ·rw [cntP_congr (p' := fun _ => false) (fun i hi => decide_eq_false (by omega)), cntP_none]; omega
theorem cntP_two {k k' n : Nat} (h : k < n) (h' : k' < n) (hne : k ≠ k') : cntP (fun i => decide (i = k) || decide (i = k')) n = 2 := by
 rw [cntP_more (p := fun i => decide (i = k')) (decide_eq_false hne) h, cntP_one h']
theorem cntP_two_le (k k' n : Nat) : cntP (fun i => decide (i = k) || decide (i = k')) n ≤ 2 := by
 induction n with
 | zero => simp [cntP]
 | succ n ih =>
  rcases Nat.lt_or_ge k (n + 1) with h | h
  ·rcases Nat.lt_or_ge k' (n + 1) with h' | h'
   ·by_cases e : k = k'
    ·subst e
     rw [cntP_congr (p' := fun i => decide (i = k)) (fun i _ => by simp), cntP_one h]; omega
    ·rw [cntP_two h h' e]; omega
   ·rw [cntP_congr (p' := fun i => decide (i = k)) (fun i hi => by rw [decide_eq_false (show ¬ i = k' by omega), Bool.or_false])]
    have := cntP_one_le k (n + 1); omega
  ·rw [cntP_congr (p' := fun i => decide (i = k')) (fun i hi => by rw [decide_eq_false (show ¬ i = k by omega), Bool.false_or])]
   have := cntP_one_le k' (n + 1); omega
theorem far_same {d d' : List (List Nat)} {q M : Nat} (h : OkD d q) (hb : ∀ l ∈ d, Byt l) (h' : OkD d' q) (hb' : ∀ l ∈ d', Byt l) (hl : d.length = d'.length) (hM : M ≤ 4)
  (hc : cntP (fun i => !decide ((enc d M).getD i [] = (enc d' M).getD i [])) (enc d M).length ≤ M) : d = d' := by
 have f1 := keepL_fit (enc d M) (fun i => !decide ((enc d M).getD i [] = (enc d' M).getD i []))
 have lo := keepL_lost (p := fun i => !decide ((enc d M).getD i [] = (enc d' M).getD i [])) (enc_rows h M) h.n1
 have f2 : Fit (keepL (enc d M) (fun i => !decide ((enc d M).getD i [] = (enc d' M).getD i []))) (enc d' M) := ⟨by rw [keepL_len, enc_len, enc_len, hl], fun i => by
  rw [keepL_getD]
  split
  ·exact .inl rfl
  ·rename_i hp
   exact .inr (by simpa using hp)⟩
 have e1 := data_back h hb hM f1 (by omega)
 have e2 := data_back h' hb' hM f2 (by omega)
 rw [hl] at e1
 rw [← e1, e2]
def chgL (l : List Nat) (at' y : Nat) : List Nat := l.set at' (l.getD at' 0 ^^^ y)
def chg (m : List (List Nat)) (k at' y : Nat) : List (List Nat) := m.set k (chgL (m.getD k []) at' y)
theorem chgL_len (l : List Nat) (a y : Nat) : (chgL l a y).length = l.length := by simp [chgL]
theorem chg_len (m : List (List Nat)) (k a y : Nat) : (chg m k a y).length = m.length := by simp [chg]
theorem chgL_getD {l : List Nat} {a y t : Nat} (ha : a < l.length) : (chgL l a y).getD t 0 = if t = a then l.getD a 0 ^^^ y else l.getD t 0 := by
 simp only [chgL, List.getD_eq_getElem?_getD, List.getElem?_set]
 by_cases e : a = t
 ·subst e; rw [if_pos rfl, if_pos rfl, if_pos ha]; rfl
 ·rw [if_neg e, if_neg (fun e' => e e'.symm)]
theorem chg_getD {m : List (List Nat)} {k a y i : Nat} (hk : k < m.length) : (chg m k a y).getD i [] = if i = k then chgL (m.getD k []) a y else m.getD i [] := by
 simp only [chg, List.getD_eq_getElem?_getD, List.getElem?_set]
 by_cases e : k = i
 ·subst e; rw [if_pos rfl, if_pos rfl, if_pos hk]; rfl
 ·rw [if_neg e, if_neg (fun e' => e e'.symm)]
theorem chgL_byt {l : List Nat} {a y : Nat} (h : Byt l) (hy : y < 256) : Byt (chgL l a y) := h.set_ a (xor_lt (h.getD_ a) hy)
theorem chg_byt {m : List (List Nat)} {k a y : Nat} (h : ∀ l ∈ m, Byt l) (hy : y < 256) : ∀ l ∈ chg m k a y, Byt l := fun l hl => by
 rcases List.mem_or_eq_of_mem_set hl with h1 | rfl
 ·exact h l h1
 ·exact chgL_byt (rows_getD h Byt.nil k) hy
theorem chg_rows {m : List (List Nat)} {k a y q : Nat} (h : ∀ l ∈ m, l.length = q) (hk : k < m.length) : ∀ l ∈ chg m k a y, l.length = q := fun l hl => by
 rcases List.mem_or_eq_of_mem_set hl with h1 | rfl
 ·exact h l h1
 ·rw [chgL_len]; exact len_getD h hk
theorem xor_ne_self {x y : Nat} (hy : y ≠ 0) : x ^^^ y ≠ x := fun e => hy (by
 have := xor_xor_self x y
 rw [e, Nat.xor_self] at this
 exact this.symm)
theorem chgL_ne {l : List Nat} {a y : Nat} (ha : a < l.length) (hy : y ≠ 0) : chgL l a y ≠ l := fun e => by
 have := chgL_getD (y := y) (t := a) ha
 rw [if_pos rfl, e] at this
 exact xor_ne_self hy this.symm
theorem OkD.chg_ {d : List (List Nat)} {q k a y : Nat} (h : OkD d q) (hk : k < d.length) : OkD (chg d k a y) q := ⟨by rw [chg_len]; exact h.d1, by rw [chg_len]; exact h.d8, h.n1, h.n64, chg_rows h.each hk⟩
theorem par_chg {d : List (List Nat)} {q k a y j : Nat} (h : OkD d q) (hb : ∀ l ∈ d, Byt l) (hk : k < d.length) (ha : a < q) : par (chg d k a y) j = chgL (par d j) a (gm (fac d.length j k) y) := by
 have hd := h.chg_ (a := a) (y := y) hk
 refine row_ext (par_len hd j) (by rw [chgL_len, par_len h]) fun t ht => ?_
 rw [chgL_getD (by rw [par_len h]; exact ha)]
 have e : ∀ t, t < q → (par d j).getD t 0 = sumN (fun k => gm (fac d.length j k) ((d.getD k []).getD t 0)) d.length := fun t ht => parTo_getD (by rw [okd_len h]; exact ht) _
 have e' : (par (chg d k a y) j).getD t 0 = sumN (fun i => gm (fac d.length j i) (((chg d k a y).getD i []).getD t 0)) d.length := by
  have := parTo_getD (d := chg d k a y) (j := j) (t := t) (by rw [okd_len hd]; exact ht) (chg d k a y).length
  rw [chg_len] at this
  unfold par
  rw [chg_len]
  exact this
 rw [e']
 by_cases c : t = a
 ·subst c
  rw [if_pos rfl, e t ht]
  have s := sumN_xor (fun i => gm (fac d.length j i) ((d.getD i []).getD t 0)) (fun i => if i = k then gm (fac d.length j k) y else 0) d.length
  rw [sumN_one (f := fun i => if i = k then gm (fac d.length j k) y else 0) hk (fun i _ hne => if_neg hne)] at s
  simp only [if_true] at s
  rw [← s]
  refine sumN_congr fun i hi => ?_
  rw [chg_getD hk]
  by_cases ci : i = k
  ·subst ci
   rw [if_pos rfl, if_pos rfl, chgL_getD (by rw [len_getD h.each hk]; exact ha), if_pos rfl, gm_xor_right]
  ·rw [if_neg ci, if_neg ci, Nat.xor_zero]
 ·rw [if_neg c, e t ht]
  refine sumN_congr fun i hi => ?_
  rw [chg_getD hk]
  by_cases ci : i = k
  ·subst ci
   rw [if_pos rfl, chgL_getD (by rw [len_getD h.each hk]; exact ha), if_neg c]
  ·rw [if_neg ci]
structure Wrong (d : List (List Nat)) (q M k a y : Nat) : Prop where
 ok : OkD d q
 byt : ∀ l ∈ d, Byt l
 m4 : M ≤ 4
 k1 : k < d.length + M
 a1 : a < q
 y0 : y ≠ 0
 y1 : y < 256
section
variable {d : List (List Nat)} {q M k a y : Nat}
theorem Wrong.kl (h : Wrong d q M k a y) : k < (enc d M).length := by rw [enc_len]; exact h.k1
theorem Wrong.rows (h : Wrong d q M k a y) : ∀ l ∈ chg (enc d M) k a y, l.length = q := chg_rows (enc_rows h.ok M) h.kl
theorem Wrong.len (h : Wrong d q M k a y) : (chg (enc d M) k a y).length = d.length + M := by rw [chg_len, enc_len]
theorem Wrong.size (h : Wrong d q M k a y) : szL (chg (enc d M) k a y) = q := szL_rows h.rows (by rw [h.len]; have := h.ok.d1; omega) h.ok.n1
theorem Wrong.okS (h : Wrong d q M k a y) : Ok d.length M (chg (enc d M) k a y) :=
 ⟨h.ok.d1, h.ok.d8, h.m4, h.len, by rw [h.size]; exact h.ok.n1, by rw [h.size]; exact h.ok.n64, fun l hl => .inr (by rw [h.size]; exact h.rows l hl)⟩
theorem Wrong.lost (h : Wrong d q M k a y) : lostN (chg (enc d M) k a y) = 0 := lostN_rows h.rows h.ok.n1
theorem Wrong.bytS (h : Wrong d q M k a y) : ∀ l ∈ chg (enc d M) k a y, Byt l := chg_byt (enc_byt h.ok h.byt h.m4) h.y1
theorem Wrong.ne (h : Wrong d q M k a y) : (chg (enc d M) k a y).getD k [] ≠ (enc d M).getD k [] := by
 rw [chg_getD h.kl, if_pos rfl]
 exact chgL_ne (by rw [len_getD (enc_rows h.ok M) h.kl]; exact h.a1) h.y0
theorem Wrong.other (h : Wrong d q M k a y) {i : Nat} (hi : i ≠ k) : (chg (enc d M) k a y).getD i [] = (enc d M).getD i [] := by
 rw [chg_getD h.kl, if_neg hi]
theorem Wrong.far (h : Wrong d q M k a y) {d' : List (List Nat)} {k' : Nat} (h' : OkD d' q) (hb' : ∀ l ∈ d', Byt l) (hl : d'.length = d.length) (hM : 2 ≤ M ∨ k' = k ∧ 1 ≤ M)
  (hf : ∀ i, i < d.length + M → i ≠ k' → (chg (enc d M) k a y).getD i [] = (enc d' M).getD i []) (hk : k' ≠ k ∨ (chg (enc d M) k a y).getD k [] = (enc d' M).getD k []) : False := by
 have e : d = d' := by
  refine far_same h.ok h.byt h' hb' hl.symm h.m4 ?_
  have hle : cntP (fun i => !decide ((enc d M).getD i [] = (enc d' M).getD i [])) (enc d M).length ≤ cntP (fun i => decide (i = k) || decide (i = k')) (enc d M).length := by
   refine cntP_mono fun i hi hp => ?_
   by_cases c1 : i = k
   ·rw [decide_eq_true c1]; rfl
   by_cases c2 : i = k'
   ·rw [decide_eq_true c2, Bool.or_true]
   ·have := hf i (by rw [enc_len] at hi; exact hi) c2
    rw [h.other c1] at this
    have hp' : (!decide ((enc d M).getD i [] = (enc d' M).getD i [])) = true := hp
    rw [this, decide_eq_true rfl] at hp'
    cases hp'
  rcases hM with hM | ⟨hM, h1⟩
  ·exact Nat.le_trans hle (Nat.le_trans (cntP_two_le k k' _) hM)
  ·subst hM
   have : cntP (fun i => decide (i = k') || decide (i = k')) (enc d M).length ≤ 1 := by
    rw [cntP_congr (p' := fun i => decide (i = k')) (fun i _ => by simp)]; exact cntP_one_le _ _
   omega
 subst e
 rcases hk with hk | hk
 ·exact h.ne (hf k h.k1 (fun e => hk e.symm))
 ·exact h.ne hk
theorem Wrong.takeOk (h : Wrong d q M k a y) : OkD ((chg (enc d M) k a y).take d.length) q ∧ (∀ l ∈ (chg (enc d M) k a y).take d.length, Byt l) ∧ ((chg (enc d M) k a y).take d.length).length = d.length := by
 have hl : ((chg (enc d M) k a y).take d.length).length = d.length := by rw [List.length_take, h.len]; omega
 exact ⟨⟨by rw [hl]; exact h.ok.d1, by rw [hl]; exact h.ok.d8, h.ok.n1, h.ok.n64, fun l hm => h.rows l (List.mem_of_mem_take hm)⟩, fun l hm => h.bytS l (List.mem_of_mem_take hm), hl⟩
theorem Wrong.notSound (h : Wrong d q M k a y) (hM : 1 ≤ M) : enc ((chg (enc d M) k a y).take d.length) M ≠ chg (enc d M) k a y := fun e => by
 obtain ⟨t1, t2, t3⟩ := h.takeOk
 exact h.far t1 t2 t3 (k' := k) (.inr ⟨rfl, hM⟩) (fun i hi hne => by rw [e]) (.inr (by rw [e]))
theorem Wrong.sound0 (h : Wrong d q 0 k a y) : sndB d.length 0 (chg (enc d 0) k a y) = true := by
 rw [sndB_eq h.okS]
 unfold rsB
 rw [h.lost, decide_eq_true rfl, Bool.true_and, decide_eq_true_eq]
 unfold enc
 simp only [List.range_zero, List.map_nil, List.append_nil]
 rw [List.take_of_length_le (by rw [chg_len]; exact Nat.le_refl _)]
theorem Wrong.sound1 (h : Wrong d q M k a y) (hM : 1 ≤ M) : sndB d.length M (chg (enc d M) k a y) = false := by
 rw [sndB_eq h.okS]
 unfold rsB
 rw [h.lost, decide_eq_true rfl, Bool.true_and, decide_eq_false (h.notSound hM)]
theorem Wrong.rst (h : Wrong d q M k a y) (hM : 1 ≤ M) : rstE d.length M (chg (enc d M) k a y) = 30 := by
 unfold rstE
 rw [h.lost, if_neg (by omega), dataL_whole h.lost (by rw [h.len]; omega), fitB_whole h.lost (by rw [enc_len, h.takeOk.2.2, h.len]), decide_eq_false (h.notSound hM), if_neg (by decide)]
theorem Wrong.res (h : Wrong d q M k a y) (hM : 1 ≤ M) : resE d.length M (chg (enc d M) k a y) = 30 := by
 unfold resE
 rw [ok_chkE h.okS, if_pos rfl, Int.toNat_natCast, Int.toNat_natCast, h.rst hM]
theorem Wrong.outLost (h : Wrong d q M k a y) (k' : Nat) : lostN (keepL (chg (enc d M) k a y) (oneB k')) ≤ 1 := by
 rw [keepL_lost h.rows h.ok.n1]
 exact cntP_one_le k' _
theorem Wrong.outAt (h : Wrong d q M k a y) (hM : 1 ≤ M) : rstE d.length M (keepL (chg (enc d M) k a y) (oneB k)) = 0 := by
 refine rst_back h.ok h.byt h.m4 ⟨by rw [keepL_len, chg_len], fun i => ?_⟩ (Nat.le_trans (h.outLost k) hM)
 rw [keepL_getD]
 by_cases e : i = k
 ·rw [if_pos (by unfold oneB; exact decide_eq_true e)]; exact .inl rfl
 ·rw [if_neg (by unfold oneB; rw [decide_eq_false e]; decide), h.other e]; exact .inr rfl
end
theorem solR_byt {D M : Nat} {m : List (List Nat)} (h : Ok D M m) (hb : ∀ l ∈ m, Byt l) : ∀ l ∈ solR D M m, Byt l := by
 have d8 := h.d8
 have m4 := h.m4
 refine gjTo_bytR (fun l hl => ?_) (fun l hl => ?_) _
 ·simp only [matM, List.mem_map] at hl
  obtain ⟨j, hj, rfl⟩ := hl
  intro x hx
  obtain ⟨i, hi, rfl⟩ := List.mem_map.1 hx
  have hj' := ((choTo_le D m (goneL D m).length M).2.2 j hj).1
  obtain ⟨k, hk⟩ := List.mem_iff_getElem?.1 hi
  have := (lostL_rank _ hk).1
  exact fac_lt (by omega) (by omega)
 ·simp only [matR, List.mem_map] at hl
  obtain ⟨j, hj, rfl⟩ := hl
  have hj' := ((choTo_le D m (goneL D m).length M).2.2 j hj).1
  exact synTo_byt hb d8 (by omega) (by rw [h.len]; omega) D (Nat.le_refl _)
theorem dataL_byt {D M : Nat} {m : List (List Nat)} (h : Ok D M m) (hb : ∀ l ∈ m, Byt l) : ∀ l ∈ dataL D M m, Byt l := fun l hl => by
 simp only [dataL, List.mem_map, List.mem_range] at hl
 obtain ⟨i, hi, rfl⟩ := hl
 split
 ·exact rows_getD (solR_byt h hb) Byt.nil _
 ·exact rows_getD hb Byt.nil _
theorem keepL_byt {m : List (List Nat)} {p : Nat → Bool} (hb : ∀ l ∈ m, Byt l) : ∀ l ∈ keepL m p, Byt l := fun l hl => by
 simp only [keepL, List.mem_map, List.mem_range] at hl
 obtain ⟨i, hi, rfl⟩ := hl
 split
 ·exact Byt.nil
 ·exact rows_getD hb Byt.nil _
section
variable {d : List (List Nat)} {q M k a y : Nat}
theorem Wrong.outOther (h : Wrong d q M k a y) {k' : Nat} (hM : 2 ≤ M) (hne : k' ≠ k) : rstE d.length M (keepL (chg (enc d M) k a y) (oneB k')) ≠ 0 := fun e => by
 have hl := h.outLost k'
 have hq : Okq d.length M q (keepL (chg (enc d M) k a y) (oneB k')) := ⟨h.ok.d1, h.ok.d8, h.m4, by rw [keepL_len, h.len], h.ok.n1, h.ok.n64, fun l hl => by
  simp only [keepL, List.mem_map, List.mem_range] at hl
  obtain ⟨i, hi, rfl⟩ := hl
  split
  ·exact .inl rfl
  ·exact .inr (len_getD h.rows hi)⟩
 have hok := hq.ok (by omega)
 have hsz := hq.size (by omega)
 unfold rstE at e
 rw [if_neg (by omega)] at e
 by_cases hf : fitB (keepL (chg (enc d M) k a y) (oneB k')) (enc (dataL d.length M (keepL (chg (enc d M) k a y) (oneB k'))) M) = true
 ·have dl := dataL_len d.length M (keepL (chg (enc d M) k a y) (oneB k'))
  refine h.far (d' := dataL d.length M (keepL (chg (enc d M) k a y) (oneB k'))) (k' := k') ⟨by rw [dl]; exact h.ok.d1, by rw [dl]; exact h.ok.d8, h.ok.n1, h.ok.n64, fun l hl => by rw [dataL_rows hok (by omega) l hl, hsz]⟩ (dataL_byt hok (keepL_byt h.bytS)) dl (.inl hM) (fun i hi hne => ?_) (.inl hne)
  obtain ⟨l, h1⟩ := get_some (show i < (keepL (chg (enc d M) k a y) (oneB k')).length by rw [keepL_len, h.len]; exact hi)
  obtain ⟨l', h2⟩ := get_some (show i < (enc (dataL d.length M (keepL (chg (enc d M) k a y) (oneB k'))) M).length by rw [enc_len, dl]; exact hi)
  have e1 : (keepL (chg (enc d M) k a y) (oneB k')).getD i [] = (chg (enc d M) k a y).getD i [] := by
   rw [keepL_getD, if_neg (by unfold oneB; rw [decide_eq_false hne]; decide)]
  have e2 : l.length = q := by
   rw [← getD_of h1, e1]; exact len_getD h.rows (by rw [h.len]; exact hi)
  rcases fitB_out hf h1 h2 with h3 | h3
  ·have := h.ok.n1; omega
  ·rw [← e1, getD_of h1, getD_of h2, h3]
 ·rw [if_neg hf] at e; cases e
theorem fndTo_cnt (D M : Nat) (m : List (List Nat)) : ∀ n, (fndTo D M m n).2 = cntP (fun k => decide (rstE D M (keepL m (oneB k)) = 0)) n
 | 0 => rfl
 | n + 1 => by
  rw [cntP_succ, ← fndTo_cnt D M m n, fndTo]
  by_cases e : rstE D M (keepL m (oneB n)) = 0
  ·rw [if_pos e, if_pos (decide_eq_true e)]
  ·rw [if_neg e, if_neg (by rw [decide_eq_false e]; decide)]; rfl
theorem fndTo_one {D M k : Nat} {m : List (List Nat)} (h : ∀ i, rstE D M (keepL m (oneB i)) = 0 ↔ i = k) : ∀ n, fndTo D M m n = if k < n then (k, 1) else (0, 0)
 | 0 => rfl
 | n + 1 => by
  rw [fndTo, fndTo_one h n]
  by_cases e : n = k
  ·subst e
   rw [if_pos ((h n).2 rfl), if_neg (by omega), if_pos (by omega)]
  ·rw [if_neg (fun e' => e ((h n).1 e'))]
   by_cases c : k < n
   ·rw [if_pos c, if_pos (by omega)]
   ·rw [if_neg c, if_neg (by omega)]
theorem Wrong.find2 (h : Wrong d q M k a y) (hM : 2 ≤ M) : fndV d.length M (chg (enc d M) k a y) = ((k : Int), 0) := by
 have F := fndTo_one (D := d.length) (M := M) (k := k) (m := chg (enc d M) k a y) (fun i => ⟨fun e => by
   by_cases c : i = k
   ·exact c
   ·exact absurd e (h.outOther hM c), fun e => by rw [e]; exact h.outAt (by omega)⟩) (chg (enc d M) k a y).length
 rw [if_pos (by rw [h.len]; exact h.k1)] at F
 unfold fndV
 rw [ok_chkE h.okS, if_neg (by decide), h.lost, if_neg (by omega), Int.toNat_natCast, Int.toNat_natCast, h.sound1 (by omega), if_neg (by decide), F, if_neg (by simp)]
theorem Wrong.find0 (h : Wrong d q 0 k a y) : fndV d.length 0 (chg (enc d 0) k a y) = (-1, 0) := by
 have c := ok_chkE h.okS
 unfold fndV
 rw [show ((0 : Nat) : Int) = 0 from rfl] at c
 rw [c, if_neg (by decide), h.lost, if_neg (by omega), Int.toNat_natCast]
 show (if sndB d.length 0 _ = true then _ else _) = _
 rw [h.sound0, if_pos rfl]
theorem Wrong.outPar (h : Wrong d q 1 k a y) (hk : k ≠ d.length) : rstE d.length 1 (keepL (chg (enc d 1) k a y) (oneB d.length)) = 0 := by
 obtain ⟨t1, t2, t3⟩ := h.takeOk
 have := rst_back (m := keepL (chg (enc d 1) k a y) (oneB d.length)) t1 t2 (M := 1) (by omega) ⟨by rw [keepL_len, enc_len, t3, h.len], fun i => ?_⟩ (h.outLost _)
 ·rw [t3] at this; exact this
 rw [keepL_getD]
 by_cases e : i = d.length
 ·rw [if_pos (by unfold oneB; exact decide_eq_true e)]; exact .inl rfl
 rw [if_neg (by unfold oneB; rw [decide_eq_false e]; decide)]
 rcases Nat.lt_or_ge i d.length with hi | hi
 ·right
  rw [enc_lo (by rw [t3]; exact hi), List.getD_eq_getElem?_getD, List.getD_eq_getElem?_getD, List.getElem?_take, if_pos hi]
 ·left
  rw [List.getD_eq_getElem?_getD, List.getElem?_eq_none (by rw [h.len]; omega)]; rfl
theorem Wrong.outData (h : Wrong d q 1 d.length a y) : rstE d.length 1 (keepL (chg (enc d 1) d.length a y) (oneB 0)) = 0 := by
 have d1 := h.ok.d1
 have d8 := h.ok.d8
 have fl : fac d.length 0 0 < 256 := fac_lt (by omega) (by omega)
 have xn : (d.length + 0) ^^^ 0 ≠ 0 := by rw [Nat.xor_zero]; omega
 have f0 : fac d.length 0 0 ≠ 0 := by
  have := gi_pos xn (by rw [Nat.xor_zero]; omega)
  unfold fac; omega
 have hp := par_chg (k := 0) (a := a) (y := gm (gi (fac d.length 0 0)) y) (j := 0) h.ok h.byt (by omega) h.a1
 rw [← gm_assoc fl (gi_lt fl) h.y1, gm_gi f0 fl, gm_one_left h.y1] at hp
 have ho := h.ok.chg_ (k := 0) (a := a) (y := gm (gi (fac d.length 0 0)) y) (by omega)
 have := rst_back (m := keepL (chg (enc d 1) d.length a y) (oneB 0)) ho (chg_byt h.byt (gm_lt (gi_lt fl))) (M := 1) (by omega) ⟨by rw [keepL_len, h.len, enc_len, chg_len], fun i => ?_⟩ (h.outLost _)
 ·rw [chg_len] at this; exact this
 rw [keepL_getD]
 by_cases e : i = 0
 ·rw [if_pos (by unfold oneB; exact decide_eq_true e)]; exact .inl rfl
 rw [if_neg (by unfold oneB; rw [decide_eq_false e]; decide)]
 rcases Nat.lt_or_ge i d.length with hi | hi
 ·right
  rw [h.other (by omega), enc_lo hi, enc_lo (by rw [chg_len]; exact hi), chg_getD (by omega), if_neg e]
 ·by_cases c : i = d.length
  ·subst c
   right
   have e1 := enc_hi (d := d) (M := 1) (j := 0) (by omega)
   have e2 := enc_hi (d := chg d 0 a (gm (gi (fac d.length 0 0)) y)) (M := 1) (j := 0) (by omega)
   rw [chg_len] at e2
   rw [Nat.add_zero] at e1 e2
   rw [chg_getD h.kl, if_pos rfl, e1, e2, hp]
  ·left
   rw [List.getD_eq_getElem?_getD, List.getElem?_eq_none (by rw [h.len]; omega)]; rfl
theorem Wrong.find1 (h : Wrong d q 1 k a y) : fndV d.length 1 (chg (enc d 1) k a y) = (0, 6) := by
 have d1 := h.ok.d1
 have k1 := h.k1
 have two : 2 ≤ (fndTo d.length 1 (chg (enc d 1) k a y) (chg (enc d 1) k a y).length).2 := by
  rw [fndTo_cnt, h.len]
  by_cases c : k = d.length
  ·subst c
   rw [← cntP_two (k := d.length) (k' := 0) (n := d.length + 1) (by omega) (by omega) (by omega)]
   refine cntP_mono fun i hi hp => ?_
   rw [Bool.or_eq_true, decide_eq_true_eq, decide_eq_true_eq] at hp
   rcases hp with hp | hp
   ·subst hp; exact decide_eq_true (h.outAt (by omega))
   ·subst hp; exact decide_eq_true h.outData
  ·rw [← cntP_two (k := k) (k' := d.length) (n := d.length + 1) (by omega) (by omega) c]
   refine cntP_mono fun i hi hp => ?_
   rw [Bool.or_eq_true, decide_eq_true_eq, decide_eq_true_eq] at hp
   rcases hp with hp | hp
   ·subst hp; exact decide_eq_true (h.outAt (by omega))
   ·subst hp; exact decide_eq_true (h.outPar c)
 have ck := ok_chkE h.okS
 rw [show ((1 : Nat) : Int) = 1 from rfl] at ck
 unfold fndV
 rw [ck, if_neg (by decide), h.lost, if_neg (by omega), Int.toNat_natCast]
 show (if sndB d.length 1 _ = true then _ else if (fndTo d.length 1 _ _).2 ≠ 1 then _ else _) = _
 rw [h.sound1 (by omega), if_neg (by decide), if_pos (by omega)]
theorem enc_find (h : OkD d q) (hM : M ≤ 4) : fndV d.length M (enc d M) = (-1, 0) := by
 unfold fndV
 rw [enc_chk h hM, if_neg (by decide), lostN_rows (enc_rows h M) h.n1, if_neg (by omega), Int.toNat_natCast, Int.toNat_natCast, enc_sound h hM, if_pos rfl]
end
end Go.Proofs.Ytapehckcmmompaa
namespace Go.Proofs.Ytapehckcmmompaa
open Go.ChangeShapes Go.WideShapes Go.ChangeAt Go.RowKit Go.Deep Go.Joins
set_option linter.unusedVariables false
set_option maxRecDepth 100000
theorem plain_addr {w : World} {a : Addr} {v : Value} (h : w.cell? a = some v) : a = ⟨a.block, a.off, none⟩ := by
 rcases a with ⟨b, o, s⟩
 cases s with
 | none => rfl
 | some s =>
  unfold World.cell? at h
  split at h
  ·simp at h
  ·cases h
theorem add_plain (b o j : Nat) : (⟨b, o, none⟩ : Addr).add j = ⟨b, o + j, none⟩ := by
 unfold Addr.add; split
 ·rename_i h; subst h; rfl
 ·rfl
theorem hd_of {w : World} {a : Addr} {xs : List Value} (h : ∀ j u, xs[j]? = some u → w.cell? (a.add j) = some u) : Hd 0 w (some a) xs := fun j u hu => by
 have hj := get_lt hu
 obtain ⟨u0, h0⟩ := get_some (show 0 < xs.length by omega)
 have ha : a = ⟨a.block, a.off, none⟩ := plain_addr (by simpa [Addr.add] using h 0 u0 h0)
 have hc := h j u hu
 rw [ha, add_plain] at hc
 have hlt : a.block < w.heap.size := World.block_lt_of_cell? w ⟨a.block, a.off + j, none⟩ hc
 exact ⟨a.block, a.off, by rw [← ha], Nat.zero_le _, hlt, hc⟩
section
variable {H : Type} {enc : TypeId × Value → H} {w : World} {base : Nat} {held : Bool}
theorem open_disks {fuel : Nat} {cs : List Value} {x : DataW H × List MemPlace} (h : DataW.trod enc Try.prog w base (fun _ => true) held fuel 59 cs = some x) :
  ∃ (a : Option Addr) (l : List Int) (cap : Nat), cs = [.slice a l.length cap] ∧ l.length ≤ cap ∧ cap ≤ 9223372036854775807 ∧ RI 0 w a l := by
 rcases open_ints Try.underlying59 Try.underlying3 (by kernel_rfl) h with ⟨rfl, _⟩ | ⟨a, len, cap, zs, rfl, hb, hl, hm, hz, _, hcell, hw⟩
 ·exact ⟨none, [], 0, rfl, by simp, by omega, Hd.nil _ _ _⟩
 ·simp only [if_true] at hz
  have el : (zs.take len).length = len := by rw [List.length_take]; omega
  refine ⟨some a, zs.take len, cap, by rw [el], by rw [el]; exact hl, by simpa [maxLen] using hm, hd_of fun j u hu => ?_⟩
  simp only [ivI, List.getElem?_map, List.getElem?_take] at hu
  split at hu
  ·obtain ⟨z, hz', rfl⟩ := Option.map_eq_some_iff.1 hu
   rw [hcell j (get_lt hz'), List.getD_eq_getElem?_getD, hz']; rfl
  ·simp at hu
theorem open_blocks {fuel : Nat} {cs : List Value} {x : DataW H × List MemPlace} (h : DataW.trod enc Try.prog w base (fun _ => true) held fuel 44 cs = some x) :
  ∃ (a : Option Addr) (m : List (List Nat)) (cap : Nat), cs = [.slice a m.length cap] ∧ m.length ≤ cap ∧ cap ≤ 9223372036854775807 ∧ RMA 0 w a m := by
 rcases open_int_rows Try.underlying44 Try.underlying26 Try.underlying5 (by kernel_rfl) (by kernel_rfl) h with ⟨rfl, _⟩ | ⟨a, len, cap, A, L, C, Z, rfl, hb, hl, hm, _, hr⟩
 ·exact ⟨none, [], 0, rfl, by simp, by omega, RMA.nil _ _ _⟩
 ·refine ⟨some a, (List.range len).map fun r => ((Z r).take (L r)).map Int.toNat, cap, by simp, by simpa using hl, by simpa [maxLen] using hm, (List.range len).map fun r => .slice (A r) (L r) (C r), by simp, hd_of fun j u hu => ?_, fun i u l hu hl' => ?_⟩
  ·rw [List.getElem?_map] at hu
   obtain ⟨r, hr', rfl⟩ := Option.map_eq_some_iff.1 hu
   have hj := get_lt hr'
   rw [List.length_range] at hj
   rw [List.getElem?_range hj] at hr'
   injection hr' with hr'
   subst hr'
   exact (hr j (by omega)).1
  ·have hi := get_lt hu
   simp only [List.length_map, List.length_range] at hi
   rw [List.getElem?_map, List.getElem?_range hi] at hu hl'
   injection hu with hu
   injection hl' with hl'
   obtain ⟨_, h1, h2, h3, h4, h5, h6⟩ := hr i (by omega)
   have el : l.length = L i := by rw [← hl', List.length_map, List.length_take]; omega
   refine ⟨A i, C i, by rw [← hu, el], by rw [el]; exact h1, by simpa [maxLen] using h2, fun y hy => ?_, ?_⟩
   ·rw [← hl'] at hy
    obtain ⟨z, hz, rfl⟩ := List.mem_map.1 hy
    have := bounds_u8 (h4 z (List.mem_of_mem_take hz))
    omega
   ·cases hA : A i with
    | none =>
     have := h5 hA
     have : l = [] := List.eq_nil_of_length_eq_zero (by omega)
     subst this
     exact Hd.nil _ _ _
    | some a' =>
     refine hd_of fun j v hv => ?_
     rw [← hl'] at hv
     simp only [bv, List.getElem?_map, List.getElem?_take] at hv
     split at hv
     ·rename_i hj
      obtain ⟨y, hy, rfl⟩ := Option.map_eq_some_iff.1 hv
      obtain ⟨z, hz, rfl⟩ := Option.map_eq_some_iff.1 hy
      have hb := bounds_u8 (h4 z (List.mem_of_getElem? hz))
      rw [(h6 a' hA).2 j (by omega), List.getD_eq_getElem?_getD, hz]
      simp only [Option.getD_some]
      rw [Int.toNat_of_nonneg hb.1]
     ·simp at hv
end
def RU (B : Nat) (X : World) (us : List Value) : Prop := ∀ (i : Nat) (u : Value), us[i]? = some u → ∃ A n c, u = .slice A n c ∧ n ≤ c ∧ c ≤ 9223372036854775807 ∧
 ∀ j, j < n → ∃ (g : Nat) (cs : Array Value) (x : Nat), A = some ⟨g, 0, none⟩ ∧ B ≤ g ∧ X.heap[g]? = some (.cells cs 5) ∧ cs[j]? = some (.int .u8 (x : Int)) ∧ x < 256
theorem OMx.ru {B : Nat} {w : World} {v : Value} {us : List Value} {m : List (List Nat)} (h : OMx B w v us m) : RU B w us := fun i u hu => by
 have hi := get_lt hu
 rw [h.len] at hi
 obtain ⟨l, hl⟩ := get_some hi
 have ho := h.row i u l hu hl
 have hb := h.byt l (List.mem_of_getElem? hl)
 obtain ⟨A, c, rfl, h1, h2, _⟩ := own_form ho
 refine ⟨A, l.length, c, rfl, h1, h2, fun j hj => ?_⟩
 obtain ⟨x, hx⟩ := get_some hj
 rcases ho.2 with ⟨_, h3⟩ | ⟨g, cap, cur, e1, e2, e3, e4, e5, e6, e7⟩
 ·omega
 ·simp only [Value.slice.injEq] at e1
  refine ⟨g, cur, x, e1.1, e2, e3, ?_, hb.at_ hx⟩
  have hv := bv_get hx
  rw [← e7, List.getElem?_take] at hv
  split at hv
  ·simpa using hv
  ·cases hv
theorem RU.next {B : Nat} {X Y : World} {us : List Value} (h : RU B X us) (hb : Below X.heap.size X Y) : RU B Y us := fun i u hu => by
 obtain ⟨A, n, c, e, h1, h2, h3⟩ := h i u hu
 refine ⟨A, n, c, e, h1, h2, fun j hj => ?_⟩
 obtain ⟨g, cs, x, k1, k2, k3, k4⟩ := h3 j hj
 exact ⟨g, cs, x, k1, k2, blk_next hb k3, k4⟩
theorem RU.set {B g o y : Nat} {X : World} {us : List Value} {cs : Array Value} (h : RU B X us) (hg : X.heap[g]? = some (.cells cs 5)) (hy : y < 256) : RU B (X.setCell ⟨g, o, none⟩ (.int .u8 (y : Int))) us := fun i u hu => by
 obtain ⟨A, n, c, e, h1, h2, h3⟩ := h i u hu
 refine ⟨A, n, c, e, h1, h2, fun j hj => ?_⟩
 obtain ⟨g', cs', x, k1, k2, k3, k4, k5⟩ := h3 j hj
 by_cases eg : g = g'
 ·subst eg
  rw [hg] at k3
  injection k3 with k3
  injection k3 with k3
  subst k3
  have hb := blk_set hg o (.int .u8 (y : Int))
  by_cases eo : o = j
  ·subst eo
   exact ⟨g, _, y, k1, k2, hb, by have := (Array.getElem?_eq_some_iff.1 k4).1; simp [this], hy⟩
  ·exact ⟨g, _, x, k1, k2, hb, by rw [Array.getElem?_setIfInBounds_ne eo]; exact k4, k5⟩
 ·exact ⟨g', cs', x, k1, k2, blk_set_other k3 eg o _, k4, k5⟩
end Go.Proofs.Ytapehckcmmompaa
namespace Go.Proofs.Ytapehckcmmompaa
open Go.ChangeShapes Go.WideShapes Go.ChangeAt Go.RowKit Gf
set_option linter.unusedVariables false
set_option maxRecDepth 100000
attribute [local go_sem ↓] Go.wp_at_zero Go.wp_at_succ
theorem great_not {m : List (List Nat)} (h : greatB m = false) : m.length ≤ 20 ∧ ∀ l ∈ m, l.length ≤ 100 := by
 unfold greatB at h
 rw [Bool.or_eq_false_iff] at h
 refine ⟨by have := of_decide_eq_false h.2; omega, fun l hl => ?_⟩
 have := (List.any_eq_false.1 h.1) l hl
 unfold greatL at this
 simp at this
 omega
theorem KU.set {B g o : Nat} {w W : World} {cs : Array Value} (h : KU B w W) (hg : W.heap[g]? = some (.cells cs 5)) (hB : B ≤ g) (x : Value) : KU B w (W.setCell ⟨g, o, none⟩ x) :=
 ⟨h.bel.setCell hB x, fun g' cs' t fz h1 ht => by
  have h2 := h.oth g' cs' t fz h1 ht
  refine blk_set_other h2 (fun e => ?_) o x
  subst e
  rw [hg] at h2
  injection h2 with h2
  injection h2 with _ h3 _
  exact ht h3.symm⟩
end Go.Proofs.Ytapehckcmmompaa
namespace Go.Proofs.Ytapehckcmmompaa
open Go.ChangeShapes Go.WideShapes Go.ChangeAt Go.RowKit Gf
set_option linter.unusedVariables false
set_option maxRecDepth 100000
attribute [local go_sem ↓] Go.wp_at_zero Go.wp_at_succ
theorem OMx.put {B : Nat} {w : World} {v : Value} {us : List Value} {m : List (List Nat)} (h : OMx B w v us m) {k g cap a x : Nat} {l : List Nat} (hl : m[k]? = some l) (hu : us[k]? = some (.slice (some ⟨g, 0, none⟩) l.length cap)) (hx : x < 256) (hB : B ≤ w.heap.size) :
  OMx B (w.setCell ⟨g, a, none⟩ (.int .u8 (x : Int))) v us (m.set k (l.set a x)) ∧ KU B w (w.setCell ⟨g, a, none⟩ (.int .u8 (x : Int))) := by
 have ho := h.row k _ l hu hl
 have st := World.ownsRow.stored ho a (.int .u8 (x : Int))
 rw [bv_set] at st
 have ku := KU.grown st.2 ho hB
 refine ⟨(h.fam.write hu st.2 st.1 (by simp) ((h.byt l (List.mem_of_getElem? hl)).set_ a hx)).omx ?_, ku⟩
 rw [List.length_set]
 exact ku.own h.top ne_sl_u8
theorem finds_cases {d : List (List Nat)} {q M k a y : Nat} (h : Wrong d q M k a y) : chkE d.length M (chg (enc d M) k a y) = 0 ∧ ((M = 0 ∧ sdB d.length M (chg (enc d M) k a y) = true ∧ fndV d.length M (chg (enc d M) k a y) = (-1, 0)) ∨ (M = 1 ∧ sdB d.length M (chg (enc d M) k a y) = false ∧ fndV d.length M (chg (enc d M) k a y) = (0, 6)) ∨ (2 ≤ M ∧ sdB d.length M (chg (enc d M) k a y) = false ∧ fndV d.length M (chg (enc d M) k a y) = ((k : Int), 0) ∧ resE d.length M (chg (enc d M) k a y) = 30)) := by
 have hc := ok_chkE h.okS
 have sd : sdB d.length M (chg (enc d M) k a y) = sndB d.length M (chg (enc d M) k a y) := by unfold sdB; rw [hc, Int.toNat_natCast, Int.toNat_natCast, decide_eq_true rfl, Bool.true_and]
 refine ⟨hc, ?_⟩
 by_cases c0 : M = 0
 ·subst c0; exact .inl ⟨rfl, sd.trans h.sound0, h.find0⟩
 by_cases c1 : M = 1
 ·subst c1; exact .inr (.inl ⟨rfl, sd.trans (h.sound1 (by omega)), h.find1⟩)
 ·exact .inr (.inr ⟨by omega, sd.trans (h.sound1 (by omega)), h.find2 (by omega), h.res (by omega)⟩)
end Go.Proofs.Ytapehckcmmompaa
namespace Go.Proofs.Ytapehckcmmompaa
open Go.ChangeShapes Go.WideShapes Go.ChangeAt Go.RowKit Gf
set_option linter.unusedVariables false
set_option maxRecDepth 100000
attribute [local go_sem ↓] Go.wp_at_zero Go.wp_at_succ
theorem Fam.put {B : Nat} {w : World} {us : List Value} {L : List (List Nat)} (h : Fam B w us L) {r g cap k x : Nat} {l : List Nat} (hl : L[r]? = some l) (hu : us[r]? = some (.slice (some ⟨g, 0, none⟩) l.length cap)) (hx : x < 256) (hB : B ≤ w.heap.size) :
  Fam B (w.setCell ⟨g, k, none⟩ (.int .u8 (x : Int))) us (L.set r (l.set k x)) ∧ KU B w (w.setCell ⟨g, k, none⟩ (.int .u8 (x : Int))) := by
 have ho := h.row r _ l hu hl
 have st := World.ownsRow.stored ho k (.int .u8 (x : Int))
 rw [bv_set] at st
 exact ⟨h.write hu st.2 st.1 (by simp) ((h.byt l (List.mem_of_getElem? hl)).set_ k hx), KU.grown st.2 ho hB⟩
theorem Fam.drew_ {B : Nat} {w : World} {us : List Value} {L : List (List Nat)} (h : Fam B w us L) : Fam B w.drew us L := h.next (Below.refl _ _).drew
theorem Fam.ext_ {B : Nat} {w : World} {us : List Value} {L L' : List (List Nat)} (h : Fam B w us L) (e : L = L') : Fam B w us L' := e ▸ h
theorem set_as_was {w : World} {b i : Nat} {u : Value} (h : w.cell? ⟨b, i, none⟩ = some u) (g : Nat) : (w.setCell ⟨b, i, none⟩ u).heap[g]? = w.heap[g]? := by
 by_cases e : b = g
 ·subst e
  cases hb : w.heap[b]? with
  | none => simp [World.cell?, hb] at h
  | some o =>
   cases o with
   | cells cs t fz =>
    rw [blk_set hb i u]
    have hc : cs[i]? = some u := by simpa [World.cell?, hb] using h
    congr 2
    apply Array.ext_getElem?
    intro j
    by_cases c : i = j
    ·subst c
     obtain ⟨h1, h2⟩ := Array.getElem?_eq_some_iff.1 hc
     simp [h1, h2]
    ·rw [Array.getElem?_setIfInBounds_ne c]
   | _ => simp [World.cell?, hb] at h
 ·exact Below.heap_setCell w ⟨b, i, none⟩ u g (fun e' => e e'.symm)
theorem fam_as_was {B : Nat} {w w' : World} {us : List Value} {L : List (List Nat)} (h : Fam B w us L) (hh : ∀ g : Nat, w'.heap[g]? = w.heap[g]?) : Fam B w' us L :=
 ⟨h.len, fun i u l hu hl => own_same (h.row i u l hu hl) (fun g cs _ _ => hh g), h.byt, h.apart⟩
def lastC (L : List (List Nat)) (n k : Nat) : List Nat := (List.range k).map fun i => (L.getD i []).getD n 0
theorem lastC_snoc (L : List (List Nat)) (n k : Nat) : lastC L n (k + 1) = lastC L n k ++ [(L.getD k []).getD n 0] := by unfold lastC; rw [List.range_succ, List.map_append]; rfl
theorem lastC_len (L : List (List Nat)) (n k : Nat) : (lastC L n k).length = k := by simp [lastC]
theorem mixK_scale' {f : Nat} {l : List Nat} (hl : Byt l) (hf : f < 256) : mixK (fun _ x => gm x f) l l.length = scaleR f l := by
 apply List.ext_getElem?
 intro i
 simp only [mixK, scaleR, List.getElem?_map]
 by_cases hi : i < l.length
 ·rw [List.getElem?_range hi, List.getElem?_eq_getElem hi]
  simp only [Option.map_some, if_pos hi, List.getD_eq_getElem?_getD, List.getElem?_eq_getElem hi, Option.getD_some]
  rw [gm_comm (hl _ (List.getElem_mem hi)) hf]
 ·rw [List.getElem?_eq_none (by simpa using hi), List.getElem?_eq_none (by simpa using hi)]; rfl
theorem set_same_get {α : Type} {L : List α} {r : Nat} {l : α} (h : L[r]? = some l) : L.set r l = L := by
 apply List.ext_getElem?
 intro i
 rw [List.getElem?_set]
 by_cases e : r = i
 ·subst e; rw [if_pos rfl, if_pos (get_lt h), h]
 ·rw [if_neg e]
theorem set_get_self {α : Type} {L : List α} {r : Nat} (l : α) (h : r < L.length) : (L.set r l)[r]? = some l := by rw [List.getElem?_set, if_pos rfl, if_pos h]
theorem ku_as_was {B : Nat} {w a b : World} (K : KU B w a) (hb : Below B a b) (hh : ∀ g : Nat, b.heap[g]? = a.heap[g]?) : KU B w b := ⟨K.bel.trans hb, fun g cs t fz h ht => (hh g).trans (K.oth g cs t fz h ht)⟩
theorem fam_at {B n cm bm r g q cap : Nat} {W : World} {us : List Value} {L : List (List Nat)} {l : List Nat} (ht : W.ownsRow B 26 1 (.slice (some ⟨bm, 0, none⟩) n cm) n us) (F : Fam B W us L) (hl : L[r]? = some l) (hu : us[r]? = some (.slice (some ⟨g, 0, none⟩) q cap)) (hq : l.length = q) :
  W.cell? ⟨bm, r, none⟩ = some (.slice (some ⟨g, 0, none⟩) q cap) ∧ ∀ (k x : Nat), l[k]? = some x → W.cell? ⟨g, k, none⟩ = some (.int .u8 (x : Int)) ∧ W.frozen? ⟨g, k, none⟩ = false ∧ x < 256 := by
 subst hq
 have ho := F.row r _ l hu hl
 exact ⟨own_at ht hu, fun k x hx => ⟨ob_cell ho hx, ho.frozenAt k, (F.byt l (List.mem_of_getElem? hl)).at_ hx⟩⟩
set_option maxRecDepth 100000 in
set_option maxHeartbeats 8000000 in
theorem refSolve_calls (Am : Option Addr) (cm B n : Nat) (us : List Value) (A : List (List Nat)) (w : World) (hA : A.length = n) (hn : n ≤ 100) (hAr : ∀ l ∈ A, l.length = n + 1)
  (hm : w.ownsRow B 26 1 (.slice Am n cm) n us) (hf : Fam B w us A) (hB : B ≤ w.heap.size) (hp : ∀ p, p < n → ((gjTo A [] p).1.getD p []).getD p 0 ≠ 0) :
  Calls Try.prog 73 #[.slice Am n cm] w fun e w' => ∃ v, e = .returned v ∧ OB w.heap.size w' v (lastC (gjTo A [] n).1 n n) ∧ Below B w w' := by
 have HM := Lib.hid hm
 have HF := Lib.hid hf
 have HAL := Lib.hid hA
 have HP := Lib.hid hp
 have hul : us.length = n := by have := hm.1; omega
 have HUL := Lib.hid hul
 have GR : Hid (∀ p, p ≤ n → (∀ l ∈ (gjTo A [] p).1, l.length = n + 1)) := Lib.hid (fun p hp => by
  induction p with
  | zero => exact hAr
  | succ p ih => exact elim_rows (ih (by omega)) (by rw [(gjTo_len A [] p).1]; omega))
 have GL : Hid (∀ p, (gjTo A [] p).1.length = n) := Lib.hid (fun p => by have := gjTo_len A [] p; rw [hA] at this; exact this.1)
 obtain ⟨hmc, hmc2⟩ : n ≤ cm ∧ cm ≤ 9223372036854775807 := by
  obtain ⟨A', c', e, h1, h2, _⟩ := own_form hm
  simp only [Value.slice.injEq, true_and] at e; rw [e.2]; exact ⟨h1, h2⟩
 obtain ⟨i0, hi0, hz0, hz1, hz2⟩ := info_parts u8_info
 have HI := Lib.hid (And.intro hi0 (And.intro hz0 (And.intro hz1 hz2)))
 clear hm hf hul hA hAr hp hi0 hz0 hz1 hz2
 go_enter Try.func73, Try.ntmps73
 go_wp2_with fail
 go_loopw [4] (fun i wr => ∃ p : Nat, p ≤ n ∧ i = .int .i64 p ∧ Hid (KU B w wr) ∧ Hid (Fam B wr us (gjTo A [] p).1)) (fun i _ => n - (intOf i).toNat)
 case atStart => exact ⟨0, by omega, rfl, Lib.hid (KU.refl _ _), HF⟩
 case round =>
  clear HF
  obtain ⟨p, hp, rfl, K, F⟩ := hrel
  by_cases hlt : p < n
  ·have S1 : Hid ((gjTo A [] (p + 1)).1 = elim (gjTo A [] p).1 (gjTo A [] p).1 p n) := Lib.hid (by simp only [gjTo]; rw [HAL.out])
   have ML := GL.out p
   have MR := GR.out p hp
   have PV := HP.out p hlt
   generalize (gjTo A [] p).1 = X at *
   obtain ⟨wo, rfl⟩ : ∃ wo : World, wo = wr := ⟨_, rfl⟩
   obtain ⟨x, hx⟩ := get_some (show p < X.length by omega)
   have hxl : x.length = n + 1 := MR x (List.mem_of_getElem? hx)
   obtain ⟨gx, cx, ux, hgx, hgx2, hcx, hcx2, hox, hbx⟩ := F.out.form (i := p) (l := x) hx (by omega)
   obtain ⟨bm, rfl, cm1, bm1, bm2⟩ := own_cell (K.out.own HM.out ne_sl_u8) ux
   obtain ⟨piv, hpiv⟩ := get_some (show p < x.length by omega)
   have pc := ob_cell hox hpiv
   have pl : piv < 256 := hbx.at_ hpiv
   have p0 : piv ≠ 0 := by rw [getD_of hx, List.getD_eq_getElem?_getD, hpiv] at PV; exact PV
   have PF : Hid (pivF X p = gi piv) := Lib.hid (by unfold pivF; rw [getD_of hx, List.getD_eq_getElem?_getD, hpiv]; rfl)
   rw [hxl] at cm1 ux hcx hox
   have e0 : ((piv : Int) == 0) = false := by rw [beq_eq_false_iff_ne]; omega
   have p1 : (0 : Int) ≤ (p : Int) := by omega
   have p2 : (p : Int) < (n : Int) := by omega
   have p3 : (p : Int) < (n : Int) + 1 := by omega
   have p4 : (p : Int) < ((n + 1 : Nat) : Int) := by omega
   have MLH := Lib.hid ML
   have MRH := Lib.hid MR
   have HX := Lib.hid hx
   have HXL := Lib.hid hxl
   have UX := Lib.hid ux
   have BX := Lib.hid hbx
   have hwB : B ≤ wo.heap.size := Nat.le_trans hB K.out.bel.size
   have fz : wo.frozen? ⟨bm, p, none⟩ = false := (K.out.own HM.out ne_sl_u8).frozenAt p
   have HCM := Lib.hid cm1
   have HOX := Lib.hid hox
   have HPV := Lib.hid hpiv
   clear ML MR PV hx hxl ux hox hbx hpiv
   go_wp2_with fail
   go_loopw [5] (fun q W => q = .int .i64 p ∧ W = wo) (fun _ _ => 0)
   case atStart => exact ⟨rfl, rfl⟩
   case round =>
    obtain ⟨rfl, rfl⟩ := hrel
    go_wp2_with fail
    go_region
    have hh : Hid (∀ g : Nat, (((wr.setCell ⟨bm, p, none⟩ (.slice (some ⟨gx, 0, none⟩) (n + 1) cx)).setCell ⟨bm, p, none⟩ (.slice (some ⟨gx, 0, none⟩) (n + 1) cx)).drew).heap[g]? = wr.heap[g]?) := Lib.hid (fun g => (set_as_was ((World.cell?_of_block (set_as_was HCM.out bm)).trans HCM.out) g).trans (set_as_was HCM.out g))
    have hbb : Hid (Below B wr (((wr.setCell ⟨bm, p, none⟩ (.slice (some ⟨gx, 0, none⟩) (n + 1) cx)).setCell ⟨bm, p, none⟩ (.slice (some ⟨gx, 0, none⟩) (n + 1) cx)).drew)) := Lib.hid (((Below.refl B wr).setCell bm2 _).setCell bm2 _).drew
    have K2 := Lib.hid (ku_as_was K.out hbb.out hh.out)
    have F2 := Lib.hid (fam_as_was F.out hh.out)
    clear hh hbb K F HCM HOX fz cm1 pc bm1 hwB hgx2
    generalize ((wr.setCell ⟨bm, p, none⟩ (.slice (some ⟨gx, 0, none⟩) (n + 1) cx)).setCell ⟨bm, p, none⟩ (.slice (some ⟨gx, 0, none⟩) (n + 1) cx)).drew = W2 at *
    obtain ⟨c1, c2⟩ := fam_at (K2.out.own HM.out ne_sl_u8) F2.out HX.out UX.out HXL.out
    obtain ⟨c3, _, _⟩ := c2 p piv HPV.out
    clear c2
    go_wp2_with fail
    refine (refInverse_calls piv p0 pl _).mono ?_
    rintro e w' ⟨rfl, rfl⟩
    have fl : gi piv < 256 := gi_lt pl
    generalize gi piv = f at *
    clear c1 c3
    go_wp2_with fail
    go_loopw [7] (fun i W => ∃ k : Nat, k ≤ n + 1 ∧ i = .int .i64 k ∧ Hid (KU B w W) ∧ Hid (Fam B W us (X.set p (mixK (fun _ z => gm z f) x k)))) (fun i _ => n + 1 - (intOf i).toNat)
    case atStart => exact ⟨0, by omega, rfl, K2, Lib.hid (F2.out.ext_ (by rw [mixK_zero, set_same_get HX.out]))⟩
    case round =>
     clear K2 F2
     obtain ⟨k, hk, rfl, K, F⟩ := hrel
     by_cases hlt2 : k < n + 1
     ·obtain ⟨z, hz⟩ := get_some (show k < x.length by rw [HXL.out]; exact hlt2)
      have hl2 : Hid ((X.set p (mixK (fun _ z => gm z f) x k))[p]? = some (mixK (fun _ z => gm z f) x k)) := Lib.hid (set_get_self _ (by rw [MLH.out]; exact hlt))
      obtain ⟨c1, c2⟩ := fam_at (K.out.own HM.out ne_sl_u8) F.out hl2.out UX.out (by rw [mixK_len, HXL.out])
      obtain ⟨c3, c4, zl⟩ := c2 k z (mixK_at hz)
      have PT := Lib.hid (F.out.put (k := k) (x := gm z f) hl2.out (by rw [mixK_len, HXL.out]; exact UX.out) (gm_lt zl) (Nat.le_trans hB K.out.bel.size))
      have HZ := Lib.hid hz
      have k1 : (0 : Int) ≤ (k : Int) := by omega
      have k2 : (k : Int) < (n : Int) + 1 := by omega
      have k3 : (k : Int) ≤ (n : Int) := by omega
      clear hz c2 hl2
      go_wp2_with fail
      refine wp_region_still_tail 15 (by kernel_rfl) (by kernel_rfl) ?_
      simp only [List.take_succ_cons, List.take_zero, List.drop_succ_cons, List.drop_zero]
      repeat still_step
      still_call (refMul_still z f zl fl _)
      repeat still_step
      refine wpStill_nil ?_
      go_wp2_with fail
      refine ⟨⟨k + 1, by omega, by go_num, Lib.hid (K.out.trans PT.out.2).drew, Lib.hid (PT.out.1.drew_.ext_ ?_)⟩, by simp [intOf]; omega⟩
      rw [List.set_set, mixK_succ HZ.out]
     ·have hkn : k = n + 1 := by omega
      have F3 : Hid (Fam B wr us (elim X X p 0)) := Lib.hid (F.out.ext_ (by
       rw [elim_zero (by rw [MLH.out]; exact hlt), PF.out, getD_of HX.out, ← mixK_scale' BX.out fl, HXL.out, hkn]))
      clear F
      subst hkn
      have k4 : ¬ ((n + 1 : Nat) : Int) ≤ (n : Int) := by omega
      have k5 : ¬ n + 1 ≤ n := by omega
      go_wp2_with fail
      clear k4 k5 hk hlt2
      obtain ⟨w3, rfl⟩ : ∃ w3 : World, w3 = wr := ⟨_, rfl⟩
      go_loopw [8] (fun i W => ∃ r : Nat, r ≤ n ∧ i = .int .i64 r ∧ Hid (KU B w W) ∧ Hid (Fam B W us (elim X X p r))) (fun i _ => n - (intOf i).toNat)
      case atStart => exact ⟨0, by omega, rfl, K, F3⟩
      case round =>
       clear K F3
       obtain ⟨r, hr, rfl, K, F⟩ := hrel
       by_cases hlt3 : r < n
       ·obtain ⟨l, hl⟩ := get_some (show r < X.length by rw [MLH.out]; exact hlt3)
        have r1 : (0 : Int) ≤ (r : Int) := by omega
        have r2 : (r : Int) < (n : Int) := by omega
        obtain ⟨wq, rfl⟩ : ∃ wq : World, wq = wr := ⟨_, rfl⟩
        by_cases erp : r = p
        ·subst erp
         have el : Hid ((elim X X r r)[r]? = some (scaleR f x)) := Lib.hid (by rw [elim_at (by rw [MLH.out]; exact hlt), if_pos rfl, PF.out, getD_of HX.out])
         obtain ⟨c1, c2⟩ := fam_at (K.out.own HM.out ne_sl_u8) F.out el.out UX.out (by rw [scaleR_len, HXL.out])
         obtain ⟨z, hz⟩ := get_some (show r < (scaleR f x).length by rw [scaleR_len, HXL.out]; omega)
         obtain ⟨c3, c4, zl⟩ := c2 r z hz
         clear c2 hz hl el
         go_wp2_with fail
         go_loopw [10] (fun i W => i = .int .i64 0 ∧ W = wq) (fun _ _ => 0)
         case atStart => exact ⟨rfl, rfl⟩
         case round =>
          obtain ⟨rfl, rfl⟩ := hrel
          go_wp2_with fail
          go_roundw
          case rel => exact ⟨r + 1, by omega, by go_num, K, Lib.hid (F.out.ext_ elim_skip.symm)⟩
          case measure => simp [intOf]; omega
        ·have hll : l.length = n + 1 := MRH.out l (List.mem_of_getElem? hl)
         have el : Hid ((elim X X p r)[r]? = some l) := Lib.hid (by rw [elim_at (by rw [MLH.out]; exact hlt3), if_neg erp, if_neg (by omega), getD_of hl])
         have ep : Hid ((elim X X p r)[p]? = some (scaleR f x)) := Lib.hid (by rw [elim_at (by rw [MLH.out]; exact hlt), if_pos rfl, PF.out, getD_of HX.out])
         obtain ⟨gl, cl, ul, hgl, hgl2, hcl, hcl2, _, hbl⟩ := F.out.form (i := r) (l := l) el.out (by omega)
         rw [hll] at ul hcl
         obtain ⟨c1, c2⟩ := fam_at (K.out.own HM.out ne_sl_u8) F.out el.out ul hll
         obtain ⟨g, hg⟩ := get_some (show p < l.length by omega)
         obtain ⟨c3, c4, gl'⟩ := c2 p g hg
         have ne' : ((r : Int) != (p : Int)) = true := by rw [bne_iff_ne]; omega
         have SS : Hid (elim X X p (r + 1) = (elim X X p r).set r (addR l (scaleR f x) g)) := Lib.hid (by
          rw [elim_step (by rw [MLH.out]; exact hlt3) erp, PF.out, getD_of HX.out, getD_of hl, List.getD_eq_getElem?_getD (l := l), hg]; rfl)
         have UL := Lib.hid ul
         have HLL := Lib.hid hll
         clear c2 hg hl ul hll hgl hgl2
         go_wp2_with fail
         go_loopw [10] (fun i W => ∃ k : Nat, k ≤ n + 1 ∧ i = .int .i64 k ∧ Hid (KU B w W) ∧ Hid (Fam B W us ((elim X X p r).set r (addK l (scaleR f x) g k)))) (fun i _ => n + 1 - (intOf i).toNat)
         case atStart => exact ⟨0, by omega, rfl, K, Lib.hid (F.out.ext_ (by rw [addK_zero, set_same_get el.out]))⟩
         case round =>
          clear K F c1 c3 c4
          obtain ⟨k, hk, rfl, K, F⟩ := hrel
          by_cases hlt4 : k < n + 1
          ·obtain ⟨z, hz⟩ := get_some (show k < l.length by rw [HLL.out]; exact hlt4)
           obtain ⟨y, hy⟩ := get_some (show k < (scaleR f x).length by rw [scaleR_len, HXL.out]; exact hlt4)
           have hl2 : Hid (((elim X X p r).set r (addK l (scaleR f x) g k))[r]? = some (addK l (scaleR f x) g k)) := Lib.hid (set_get_self _ (by rw [elim_len, MLH.out]; exact hlt3))
           have hl3 : Hid (((elim X X p r).set r (addK l (scaleR f x) g k))[p]? = some (scaleR f x)) := Lib.hid (by rw [List.getElem?_set, if_neg erp]; exact ep.out)
           obtain ⟨d1, d2⟩ := fam_at (K.out.own HM.out ne_sl_u8) F.out hl2.out UL.out (by rw [addK_len, HLL.out])
           obtain ⟨d3, d4, zl⟩ := d2 k z (addK_at hz)
           obtain ⟨e1, e2⟩ := fam_at (K.out.own HM.out ne_sl_u8) F.out hl3.out UX.out (by rw [scaleR_len, HXL.out])
           obtain ⟨e3, _, yl⟩ := e2 k y hy
           have X3 : Hid (bits BinOp.xor IntKind.u8 (z : Int) (gm g y : Nat) = ((z ^^^ gm g y : Nat) : Int)) := Lib.hid (u8_xor_nat z (gm g y) zl (gm_lt gl'))
           have PT := Lib.hid (F.out.put (k := k) (x := z ^^^ gm g y) hl2.out (by rw [addK_len, HLL.out]; exact UL.out) (xor_lt zl (gm_lt gl')) (Nat.le_trans hB K.out.bel.size))
           have HZ := Lib.hid (And.intro hz hy)
           have k1 : (0 : Int) ≤ (k : Int) := by omega
           have k2 : (k : Int) < (n : Int) + 1 := by omega
           have k3 : (k : Int) ≤ (n : Int) := by omega
           clear hz hy d2 e2 hl2 hl3
           go_wp2_with fail
           refine wp_region_still_tail 18 (by kernel_rfl) (by kernel_rfl) ?_
           simp only [List.take_succ_cons, List.take_zero, List.drop_succ_cons, List.drop_zero]
           repeat still_step
           still_call (refMul_still g y gl' yl _)
           repeat still_step
           refine wpStill_nil ?_
           go_wp2_with fail
           rw [X3.out]
           refine ⟨⟨k + 1, by omega, by go_num, Lib.hid (K.out.trans PT.out.2).drew, Lib.hid (PT.out.1.drew_.ext_ ?_)⟩, by simp [intOf]; omega⟩
           rw [List.set_set, addK_succ HZ.out.1 HZ.out.2]
          ·have hkn : k = n + 1 := by omega
           have F4 : Hid (Fam B wr us (elim X X p (r + 1))) := Lib.hid (F.out.ext_ (by rw [SS.out, addK_full g (by rw [scaleR_len, HXL.out, hkn]; exact Nat.le_refl _)]))
           clear F
           subst hkn
           have k4 : ¬ ((n + 1 : Nat) : Int) ≤ (n : Int) := by omega
           have k5 : ¬ n + 1 ≤ n := by omega
           go_wp2_with fail
           go_roundw
           case rel => first | exact ⟨r + 1, by omega, by go_num, K, F4⟩ | exact ⟨r + 1, by omega, by go_num, F4⟩
           case measure => simp [intOf]; omega
       ·have hrn : r = n := by omega
        subst hrn
        go_wp2_with fail
        go_roundw
        case rel => exact ⟨p + 1, by omega, by go_num, K, Lib.hid (F.out.ext_ S1.out.symm)⟩
        case measure => simp [intOf]; omega
  ·have hpn : p = n := by omega
   subst hpn
   have MR := Lib.hid (GR.out p (Nat.le_refl _))
   have ML := Lib.hid (GL.out p)
   clear GR GL HP
   obtain ⟨X, hX⟩ : ∃ X, X = (gjTo A [] p).1 := ⟨_, rfl⟩
   rw [← hX] at F MR ML
   have HXX := Lib.hid hX
   clear hX
   obtain ⟨wo, rfl⟩ : ∃ wo : World, wo = wr := ⟨_, rfl⟩
   go_wp2_with fail
   go_loopw [11, 12] (fun v i W => ∃ k : Nat, k ≤ p ∧ i = .int .i64 k ∧ Hid (W.ownsRow wo.heap.size 5 1 v k (bv (lastC X p k))) ∧ Hid (Below wo.heap.size wo W)) (fun _ i _ => p - (intOf i).toNat)
   case atStart => exact ⟨0, by omega, rfl, Lib.hid (World.ownsRow_nil _ _ _ _), Lib.hid (Below.refl _ _)⟩
   case round =>
    obtain ⟨k, hk, rfl, O, N⟩ := hrel
    by_cases hlt2 : k < p
    ·obtain ⟨l, hl⟩ := get_some (show k < X.length by rw [ML.out]; exact hlt2)
     have hll : l.length = p + 1 := MR.out l (List.mem_of_getElem? hl)
     obtain ⟨gl, cl, ul, hgl, hgl2, hcl, hcl2, _, hbl⟩ := F.out.form (i := k) (l := l) hl (by omega)
     rw [hll] at ul hcl
     obtain ⟨bm, rfl, _, _, _⟩ := own_cell (K.out.own HM.out ne_sl_u8) ul
     obtain ⟨c1, c2⟩ := fam_at (own_next N.out (K.out.own HM.out ne_sl_u8)) (F.out.next N.out) hl ul hll
     obtain ⟨y, hy⟩ := get_some (show p < l.length by omega)
     obtain ⟨c3, _, yl⟩ := c2 p y hy
     have EY : Hid (lastC X p (k + 1) = lastC X p k ++ [y]) := Lib.hid (by rw [lastC_snoc, getD_of hl, List.getD_eq_getElem?_getD, hy]; rfl)
     have k1 : (0 : Int) ≤ (k : Int) := by omega
     have k2 : (k : Int) < (p : Int) := by omega
     have k3 : (0 : Int) ≤ (p : Int) := by omega
     have k4 : (p : Int) < (p : Int) + 1 := by omega
     clear hl hll ul c2 hy hgl hgl2 hbl
     go_wp2_with (at_builtin; refine wpList_append_rd _ rfl (.tmp 118) (.tmp 126) _ rfl wo.heap.size 5 i0 _ 1 1 Try.underlying26 HI.out.1 HI.out.2.1 HI.out.2.2.1 HI.out.2.2.2 rfl (by omega) _ k _ rfl (O.out.alloc _) (some ⟨wr.heap.size, 0, none⟩) 1 1 [.int .u8 (y : Int)] rfl (rd_one (t := 5) (blk_new _ _)) (int_one _ _) (by simp only [maxLen]; omega) (by omega) (by have q := N.out.size; simp; omega) ?_; intro v1 w1 hown1 hg1 hat1; have O1 := Lib.hid hown1; have N1 : Hid (Below wo.heap.size wo w1) := Lib.hid (gbel hg1 (Bal N.out _) (fun g hg => (O.out.lt g hg).1)); clear hown1 hg1 hat1)
     refine ⟨⟨k + 1, by omega, by go_num, ?_, N1⟩, by simp [intOf]; omega⟩
     rw [EY.out, bv_append]
     exact O1
    ·have hkp : k = p := by omega
     subst hkp
     go_wp2_with fail
     go_ret
     have h9 : wr.ownsRow wo.heap.size 5 1 u11 (lastC X k k).length (bv (lastC X k k)) := by rw [lastC_len]; exact O.out
     exact ⟨_, rfl, by rw [← HXX.out]; exact own_mono h9 K.out.bel.size, K.out.bel.trans (N.out.mono (Nat.le_trans hB K.out.bel.size))⟩
end Go.Proofs.Ytapehckcmmompaa
namespace Go.Proofs.Ytapehckcmmompaa
open Gf
set_option linter.unusedVariables false
set_option maxRecDepth 100000
def augR (M R : List (List Nat)) (k : Nat) : List (List Nat) := (List.range M.length).map fun r => M.getD r [] ++ [(R.getD r []).getD k 0]
theorem augR_len (M R : List (List Nat)) (k : Nat) : (augR M R k).length = M.length := by simp [augR]
theorem augR_get {M R : List (List Nat)} {k r : Nat} (h : r < M.length) : (augR M R k)[r]? = some (M.getD r [] ++ [(R.getD r []).getD k 0]) := by
 simp only [augR, List.getElem?_map, List.getElem?_range h, Option.map_some]
theorem getD_app {a : List Nat} {y i : Nat} (h : i < a.length) : (a ++ [y]).getD i 0 = a.getD i 0 := by
 rw [List.getD_eq_getElem?_getD, List.getD_eq_getElem?_getD, List.getElem?_append_left h]
theorem getD_last {a : List Nat} {y n : Nat} (h : a.length = n) : (a ++ [y]).getD n 0 = y := by
 subst h; rw [List.getD_eq_getElem?_getD, List.getElem?_append_right (by omega)]; simp
theorem scaleR_app (f : Nat) (a : List Nat) (y : Nat) : scaleR f (a ++ [y]) = scaleR f a ++ [gm f y] := by simp [scaleR]
theorem addR_app {a b : List Nat} (h : a.length = b.length) (x y c : Nat) : addR (a ++ [x]) (b ++ [y]) c = addR a b c ++ [x ^^^ gm c y] := by
 unfold addR
 rw [List.length_append, List.length_singleton, List.range_succ, List.map_append]
 congr 1
 ·refine List.map_congr_left fun i hi => ?_
  rw [List.mem_range] at hi
  rw [getD_app hi, getD_app (by omega)]
 ·simp only [List.map_cons, List.map_nil]
  rw [getD_last rfl, getD_last h.symm]
theorem aug_elim {M R : List (List Nat)} {n q k p : Nat} (hM : M.length = n) (hR : R.length = n) (rM : ∀ l ∈ M, l.length = n) (rR : ∀ l ∈ R, l.length = q) (hk : k < q) (hp : p < n) :
  elim (augR M R k) (augR M R k) p n = augR (elim M M p n) (elim M R p n) k := by
 have gp : (augR M R k).getD p [] = M.getD p [] ++ [(R.getD p []).getD k 0] := getD_of (augR_get (by omega))
 have pf : pivF (augR M R k) p = pivF M p := by unfold pivF; rw [gp, getD_app (by rw [len_getD rM (by omega)]; exact hp)]
 apply List.ext_getElem?
 intro i
 by_cases hi : i < n
 ·have gi' : (augR M R k).getD i [] = M.getD i [] ++ [(R.getD i []).getD k 0] := getD_of (augR_get (by omega))
  rw [elim_at (by rw [augR_len, hM]; exact hi), augR_get (by rw [elim_len, hM]; exact hi), elim_getD (by omega), elim_getD (by omega), pf, gp, gi']
  congr 1
  by_cases e : i = p
  ·rw [if_pos e, if_pos e, if_pos e, scaleR_app, scaleR_getD]
  ·rw [if_neg e, if_neg e, if_neg e, if_pos hi, if_pos hi, if_pos hi, scaleR_app, addR_app (by rw [scaleR_len, len_getD rM (by omega), len_getD rM (by omega)]), getD_app (by rw [len_getD rM (by omega)]; exact hp),
    addR_getD (by rw [len_getD rR (by omega)]; exact hk), scaleR_getD]
 ·rw [List.getElem?_eq_none (by rw [elim_len, augR_len]; omega), List.getElem?_eq_none (by rw [augR_len, elim_len]; omega)]
theorem aug_gj {M R : List (List Nat)} {n q k : Nat} (hM : M.length = n) (hR : R.length = n) (rM : ∀ l ∈ M, l.length = n) (rR : ∀ l ∈ R, l.length = q) (hk : k < q) : ∀ p, p ≤ n → (gjTo (augR M R k) [] p).1 = augR (gjTo M R p).1 (gjTo M R p).2 k
 | 0, _ => rfl
 | p + 1, h => by
  have gl := gjTo_len M R p
  have gr := gjTo_rows rM rR (by omega) p (by omega)
  have ih := aug_gj hM hR rM rR hk p (by omega)
  simp only [gjTo]
  rw [ih, augR_len, hM]
  exact aug_elim (by rw [gl.1, hM]) (by rw [gl.2, hR]) gr.1 gr.2 hk (by omega)
theorem aug_last {X Y : List (List Nat)} {n k : Nat} (hX : X.length = n) (rX : ∀ l ∈ X, l.length = n) : lastC (augR X Y k) n n = (List.range n).map fun i => (Y.getD i []).getD k 0 := by
 unfold lastC
 refine List.map_congr_left fun i hi => ?_
 rw [List.mem_range] at hi
 rw [getD_of (augR_get (by omega)), getD_last (len_getD rX (by omega))]
theorem augR_rows {M R : List (List Nat)} {n k : Nat} (rM : ∀ l ∈ M, l.length = n) : ∀ l ∈ augR M R k, l.length = n + 1 := fun l hl => by
 simp only [augR, List.mem_map, List.mem_range] at hl
 obtain ⟨i, hi, rfl⟩ := hl
 rw [List.length_append, len_getD rM hi]; rfl
def rowJ (D : Nat) (m : List (List Nat)) (k j : Nat) : List Nat := (goneL D m).map (fac D j) ++ [(syn D m j).getD k 0]
theorem rows_eq (D : Nat) (m : List (List Nat)) (cho : List Nat) (k : Nat) : cho.map (rowJ D m k) = augR (matM D m cho) (matR D m cho) k := by
 apply List.ext_getElem?
 intro r
 by_cases hr : r < cho.length
 ·obtain ⟨j, hj⟩ := get_some hr
  rw [augR_get (by rw [matM_len]; exact hr), List.getElem?_map, hj]
  have e1 : (matM D m cho).getD r [] = (goneL D m).map (fac D j) := getD_of (by simp [matM, hj])
  have e2 : (matR D m cho).getD r [] = syn D m j := getD_of (by simp [matR, hj])
  rw [e1, e2]; rfl
 ·rw [List.getElem?_eq_none (by simpa using hr), List.getElem?_eq_none (by rw [augR_len, matM_len]; omega)]
theorem ref_sol {D M k : Nat} {m : List (List Nat)} (h : Ok D M m) (hb : ∀ l ∈ m, Byt l) (hl : lostN m ≤ M) (hk : k < szL m) :
  (∀ l ∈ (choTo D m (goneL D m).length M).map (rowJ D m k), l.length = (goneL D m).length + 1) ∧ (∀ l ∈ (choTo D m (goneL D m).length M).map (rowJ D m k), Byt l) ∧
  (∀ p, p < (goneL D m).length → ((gjTo ((choTo D m (goneL D m).length M).map (rowJ D m k)) [] p).1.getD p []).getD p 0 ≠ 0) ∧
  lastC (gjTo ((choTo D m (goneL D m).length M).map (rowJ D m k)) [] (goneL D m).length).1 (goneL D m).length (goneL D m).length = (List.range (goneL D m).length).map fun i => ((solR D M m).getD i []).getD k 0 := by
 have ce := cho_enough h.len hl
 have d8 := h.d8
 have m4 := h.m4
 have sr := solR_rows h hl
 have g4 : (goneL D m).length ≤ 4 := by
  have h1 : (goneL D m).length = lostN (m.take D) := lostL_count _ (by have := h.len; omega)
  have := lost_split D m
  omega
 have ML : (matM D m (choTo D m (goneL D m).length M)).length = (goneL D m).length := by rw [matM_len, ce]
 have RL : (matR D m (choTo D m (goneL D m).length M)).length = (goneL D m).length := by rw [matR_len, ce]
 have cs : choTo D m (goneL D m).length M ∈ subs 4 (goneL D m).length := by
  have := choTo_subs D m (goneL D m).length M
  rw [ce] at this
  exact subs_le this m4
 have gs : goneL D m ∈ subs D (goneL D m).length := lostL_subs m D
 obtain ⟨_, hpv⟩ := allOk_out (all_ok h.d1 d8 g4) gs cs ce
 have RR : ∀ l ∈ matR D m (choTo D m (goneL D m).length M), l.length = szL m := fun l hl => by
  simp only [matR, List.mem_map] at hl
  obtain ⟨x, hx, rfl⟩ := hl
  obtain ⟨x1, x2⟩ := (choTo_le D m (goneL D m).length M).2.2 x hx
  unfold syn
  rw [synTo_len]
  obtain ⟨z, hz⟩ := get_some (show D + x < m.length by rw [h.len]; omega)
  rw [getD_of hz] at x2 ⊢
  rcases h.each z (List.mem_of_getElem? hz) with h | h
  ·exact absurd h x2
  ·exact h
 have MR := matM_rows D m (choTo D m (goneL D m).length M)
 have gj := aug_gj ML RL MR RR hk
 have gr := gjTo_rows MR RR (by rw [ML, RL])
 refine ⟨?_, ?_, ?_, ?_⟩
 ·rw [rows_eq]; exact augR_rows MR
 ·intro l hl
  obtain ⟨j, hj, rfl⟩ := List.mem_map.1 hl
  have hj' := ((choTo_le D m (goneL D m).length M).2.2 j hj).1
  refine Byt.append (fun x hx => ?_) (fun x hx => ?_)
  ·obtain ⟨i, hi, rfl⟩ := List.mem_map.1 hx
   obtain ⟨k', hk'⟩ := List.mem_iff_getElem?.1 hi
   have := (lostL_rank _ hk').1
   exact fac_lt (by omega) (by omega)
  ·simp only [List.mem_singleton] at hx
   subst hx
   exact Byt.getD_ (synTo_byt hb d8 (by omega) (by rw [h.len]; omega) D (Nat.le_refl _)) k
 ·intro p hp
  rw [rows_eq, gj p (by omega), getD_of (augR_get (by rw [(gjTo_len _ _ p).1, ML]; exact hp)), getD_app (by rw [len_getD (gr p (by rw [ML]; omega)).1 (by rw [(gjTo_len _ _ p).1, ML]; exact hp)]; exact hp), gjTo_fst _ _ []]
  exact hpv p hp
 ·rw [rows_eq, gj _ (Nat.le_refl _), aug_last (by rw [(gjTo_len _ _ _).1, ML]) (gr _ (by rw [ML]; exact Nat.le_refl _)).1]
  rfl
theorem right_lost {D j k i : Nat} {m : List (List Nat)} (hk : k < (m.getD (D + j) []).length) (h0 : (m.getD i []).length = 0) : (synTo D m j (i + 1)).getD k 0 = (synTo D m j i).getD k 0 := by
 have e : m.getD i [] = [] := List.eq_nil_of_length_eq_zero h0
 rw [synTo, addR_getD (by rw [synTo_len]; exact hk), e]
 simp [gm_zero_right]
theorem right_here {D j k i y : Nat} {m : List (List Nat)} {l : List Nat} (hk : k < (m.getD (D + j) []).length) (hl : m[i]? = some l) (hy : l[k]? = some y) : (synTo D m j (i + 1)).getD k 0 = (synTo D m j i).getD k 0 ^^^ gm (fac D j i) y := by
 rw [synTo, addR_getD (by rw [synTo_len]; exact hk), getD_of hl, List.getD_eq_getElem?_getD (l := l), hy]; rfl
end Go.Proofs.Ytapehckcmmompaa
namespace Go.Proofs.Ytapehckcmmompaa
open Gf
set_option linter.unusedVariables false
set_option maxRecDepth 100000
def mixZ (s : List Nat) (n k : Nat) : List Nat := (List.range n).map fun t => if t < k then s.getD t 0 else 0
theorem mixZ_len (s : List Nat) (n k : Nat) : (mixZ s n k).length = n := by simp [mixZ]
theorem mixZ_zero (s : List Nat) (n : Nat) : mixZ s n 0 = List.replicate n 0 := by
 unfold mixZ
 rw [List.eq_replicate_iff]
 exact ⟨by simp, fun b hb => by obtain ⟨t, _, rfl⟩ := List.mem_map.1 hb; rw [if_neg (by omega)]⟩
theorem mixZ_full {s : List Nat} {n : Nat} (h : s.length = n) : mixZ s n n = s := by
 refine row_ext (q := n) (mixZ_len _ _ _) h fun t ht => ?_
 simp only [mixZ, List.getD_eq_getElem?_getD, List.getElem?_map, List.getElem?_range ht, Option.map_some, Option.getD_some, if_pos ht]
theorem mixZ_succ {s : List Nat} {n k : Nat} (hk : k < n) : mixZ s n (k + 1) = (mixZ s n k).set k (s.getD k 0) := by
 apply List.ext_getElem?
 intro i
 rw [List.getElem?_set]
 by_cases hi : i < n
 ·simp only [mixZ, List.getElem?_map, List.getElem?_range hi, Option.map_some, List.length_map, List.length_range]
  by_cases c : k = i
  ·subst c; rw [if_pos rfl, if_pos (by omega), if_pos hk]
  ·rw [if_neg c]
   congr 1
   by_cases c1 : i < k
   ·rw [if_pos (by omega), if_pos c1]
   ·rw [if_neg (by omega), if_neg c1]
 ·rw [List.getElem?_eq_none (by rw [mixZ_len]; omega)]
  by_cases c : k = i
  ·omega
  ·rw [if_neg c, List.getElem?_eq_none (by rw [mixZ_len]; omega)]
def wK (d : Nat) (m : List (List Nat)) (n : Nat) (sol : List (List Nat)) (k r : Nat) : List (List Nat) := (List.range m.length).map fun i =>
 if i < d ∧ (m.getD i []).length = 0 then (if (lostL m i).length < r then mixZ (sol.getD (lostL m i).length []) n (k + 1) else mixZ (sol.getD (lostL m i).length []) n k) else m.getD i []
theorem wK_len (d : Nat) (m : List (List Nat)) (n : Nat) (sol : List (List Nat)) (k r : Nat) : (wK d m n sol k r).length = m.length := by simp [wK]
theorem wK_get {d n k r i : Nat} {m sol : List (List Nat)} (hi : i < m.length) : (wK d m n sol k r)[i]? = some (if i < d ∧ (m.getD i []).length = 0 then (if (lostL m i).length < r then mixZ (sol.getD (lostL m i).length []) n (k + 1) else mixZ (sol.getD (lostL m i).length []) n k) else m.getD i []) := by
 simp only [wK, List.getElem?_map, List.getElem?_range hi, Option.map_some]
theorem wK_next {d n k : Nat} {m sol : List (List Nat)} (hd : d ≤ m.length) : wK d m n sol k (goneL d m).length = wK d m n sol (k + 1) 0 := by
 unfold wK
 refine List.map_congr_left fun i _ => ?_
 by_cases c : i < d ∧ (m.getD i []).length = 0
 ·rw [if_pos c, if_pos c, if_pos (show (lostL m i).length < (goneL d m).length from lostL_lt c.1 c.2), if_neg (by omega)]
 ·rw [if_neg c, if_neg c]
theorem wK_at {d n k r x : Nat} {m sol : List (List Nat)} (hd : d ≤ m.length) (hx : (goneL d m)[r]? = some x) : (wK d m n sol k r)[x]? = some (mixZ (sol.getD r []) n k) := by
 obtain ⟨h1, h2, h3⟩ := lostL_rank d hx
 rw [wK_get (by omega), if_pos ⟨h1, h2⟩, if_neg (by omega), h3]
theorem wK_succ {d n k r x : Nat} {m sol : List (List Nat)} (hd : d ≤ m.length) (hk : k < n) (hx : (goneL d m)[r]? = some x) : wK d m n sol k (r + 1) = (wK d m n sol k r).set x ((mixZ (sol.getD r []) n k).set k ((sol.getD r []).getD k 0)) := by
 obtain ⟨h1, h2, h3⟩ := lostL_rank d hx
 rw [← mixZ_succ hk]
 apply List.ext_getElem?
 intro i
 rw [List.getElem?_set]
 by_cases hi : i < m.length
 ·rw [wK_get hi, wK_get hi]
  by_cases c : x = i
  ·subst c
   rw [if_pos rfl, if_pos ⟨h1, h2⟩, if_pos (by omega), if_pos (by rw [wK_len]; exact hi), h3]
  ·rw [if_neg c]
   congr 1
   by_cases c1 : i < d ∧ (m.getD i []).length = 0
   ·have : (lostL m i).length ≠ r := fun e => c (lostL_inj h2 c1.2 (by omega))
    rw [if_pos c1, if_pos c1]
    by_cases c2 : (lostL m i).length < r
    ·rw [if_pos (by omega), if_pos c2]
    ·rw [if_neg (by omega), if_neg c2]
   ·rw [if_neg c1, if_neg c1]
 ·rw [List.getElem?_eq_none (by rw [wK_len]; omega)]
  by_cases c : x = i
  ·omega
  ·rw [if_neg c, List.getElem?_eq_none (by rw [wK_len]; omega)]
theorem wK_end {d e : Nat} {m : List (List Nat)} (h : Ok d e m) (hl : lostN m ≤ e) : (wK d m (szL m) (solR d e m) (szL m) 0).take d = dataL d e m := by
 have sr := solR_rows h hl
 apply List.ext_getElem?
 intro i
 rw [List.getElem?_take]
 by_cases hi : i < d
 ·rw [if_pos hi, wK_get (by rw [h.len]; omega), dataL_at hi]
  by_cases c : (m.getD i []).length = 0
  ·rw [if_pos ⟨hi, c⟩, if_pos c, if_neg (by omega), mixZ_full (len_getD sr.2 (by rw [sr.1]; exact lostL_lt hi c))]
  ·rw [if_neg (fun c' => c c'.2), if_neg c]
 ·rw [if_neg hi, List.getElem?_eq_none (by rw [dataL_len]; omega)]
end Go.Proofs.Ytapehckcmmompaa
