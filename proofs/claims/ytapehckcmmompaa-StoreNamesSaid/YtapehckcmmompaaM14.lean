/- Several texts in one. -/
import Derived.Test.YtapehckcmmompaaM04
import Derived.Test.YtapehckcmmompaaM13
namespace Go.Proofs.Ytapehckcmmompaa
open Go.ChangeShapes Go.WideShapes Go.ChangeAt Go.RowKit
set_option linter.unusedVariables false
set_option maxRecDepth 100000
theorem exists_live {ds : List Dk} (h : faN ds ≠ ds.length) : ∃ k ∈ ds, k.failed = false := by
 refine Classical.byContradiction fun hn => h ?_
 unfold faN
 rw [List.filter_eq_self.2]
 intro a ha
 cases e : a.failed with
 | true => rfl
 | false => exact absurd ⟨a, ha, e⟩ hn
theorem strp_each {d p : Int} {ds : List Dk} {os : List Ob} (h : OkS d p ds os) {k : Nat} (hk : (k : Int) < strN os) : ∀ l ∈ strp ds k, l.length = 0 ∨ l.length = 8 := fun l hl => by
 obtain ⟨x, hx, rfl⟩ := List.mem_map.1 hl
 cases e : x.failed with
 | true => left; simp
 | false =>
  right
  have h1 := (h.dkl hx).2 e
  have hlt : k < x.blocks.length := by omega
  simp only [Bool.false_eq_true, if_false, List.getD_eq_getElem?_getD, List.getElem?_eq_getElem hlt, Option.getD_some]
  exact h1.2 _ (List.getElem_mem hlt)
theorem strp_size {d p : Int} {ds : List Dk} {os : List Ob} (h : OkS d p ds os) {k : Nat} (hk : (k : Int) < strN os) : szL (strp ds k) = 8 := by
 obtain ⟨x, hx, e⟩ := exists_live (h.gone (by omega))
 have h1 := (h.dkl hx).2 e
 have hlt : k < x.blocks.length := by omega
 have hm : x.blocks[k] ∈ strp ds k := List.mem_map.2 ⟨x, hx, by simp [e, List.getD_eq_getElem?_getD, List.getElem?_eq_getElem hlt]⟩
 have h8 := h1.2 _ (List.getElem_mem hlt)
 rcases Nat.eq_zero_or_pos (szL (strp ds k)) with e0 | e0
 ·have := szL_zero e0 _ hm
  omega
 ·obtain ⟨l, hl, e2⟩ := szL_mem (by omega : szL (strp ds k) ≠ 0)
  rcases strp_each h hk l hl with e3 | e3 <;> omega
theorem strp_ok {d p : Int} {ds : List Dk} {os : List Ob} (h : OkS d p ds os) {k : Nat} (hk : (k : Int) < strN os) : Ok d.toNat p.toNat (strp ds k) := by
 have h1 := h.d1
 have h2 := h.d8
 have h3 := h.p0
 have h4 := h.p4
 have h5 := h.len
 have h6 := strp_size h hk
 refine ⟨by omega, by omega, by omega, by rw [strp_len]; omega, by omega, by omega, fun l hl => ?_⟩
 rw [h6]; exact strp_each h hk l hl
theorem strp_chk {d p : Int} {ds : List Dk} {os : List Ob} (h : OkS d p ds os) {k : Nat} (hk : (k : Int) < strN os) : chkE d p (strp ds k) = 0 := by
 have := ok_chkE (strp_ok h hk)
 rwa [Int.toNat_of_nonneg (by have := h.d1; omega), Int.toNat_of_nonneg h.p0] at this
theorem strp_resE {d p : Int} {ds : List Dk} {os : List Ob} (h : OkS d p ds os) {k : Nat} (hk : (k : Int) < strN os) : resE d p (strp ds k) = rstE d.toNat p.toNat (strp ds k) := if_pos (strp_chk h hk)
theorem rstE_zero {D M : Nat} {m : List (List Nat)} (h : rstE D M m = 0) : lostN m ≤ M := by
 unfold rstE at h
 split at h
 ·cases h
 ·omega
theorem strp_rows {d p : Int} {ds : List Dk} {os : List Ob} (h : OkS d p ds os) {k : Nat} (hk : (k : Int) < strN os) (hr : resE d p (strp ds k) = 0) :
  (resS d p (strp ds k)).2.2.length = ds.length ∧ (∀ l ∈ (resS d p (strp ds k)).2.2, l.length = 8) ∧ (resS d p (strp ds k)).2.2.take d.toNat = dataL d.toNat p.toNat (strp ds k) ∧ (resS d p (strp ds k)).1 = d ∧ (resS d p (strp ds k)).2.1 = p := by
 have hk' := hk
 have ok := strp_ok h hk
 have hl := rstE_zero (by rw [← strp_resE h hk]; exact hr)
 have e : resS d p (strp ds k) = (d, p, enc (dataL d.toNat p.toNat (strp ds k)) p.toNat) := by unfold resS; rw [hr, if_pos rfl]
 have dr := dataL_rows ok hl
 rw [strp_size h hk] at dr
 have dl := dataL_len d.toNat p.toNat (strp ds k)
 have od : OkD (dataL d.toNat p.toNat (strp ds k)) 8 := ⟨by rw [dl]; exact ok.d1, by rw [dl]; exact ok.d8, by omega, by omega, dr⟩
 rw [e]
 refine ⟨?_, enc_rows od _, ?_, rfl, rfl⟩
 ·simp only [enc_len, dl]
  have := h.len; have := h.d1; have := h.p0; omega
 ·have := enc_take (dataL d.toNat p.toNat (strp ds k)) p.toNat
  rwa [dl] at this
theorem flat_len8 {m : List (List Nat)} (h : ∀ l ∈ m, l.length = 8) : m.flatten.length = m.length * 8 := by
 induction m with
 | nil => rfl
 | cons a m ih =>
  rw [List.flatten_cons, List.length_append, ih (fun l hl => h l (List.mem_cons_of_mem _ hl)), h a List.mem_cons_self, List.length_cons]; omega
theorem getTo_len {d p : Int} {ds : List Dk} {os : List Ob} (h : OkS d p ds os) {fr : Nat} : ∀ {k : Nat}, ((fr + k : Nat) : Int) ≤ strN os → (getTo d p ds fr k).2 = 0 → (getTo d p ds fr k).1.length = k * d.toNat * 8
 | 0, _, _ => by simp [getTo]
 | k + 1, hk, h0 => by
  rw [getTo] at h0 ⊢
  by_cases h1 : (getTo d p ds fr k).2 = 0
  ·rw [if_pos h1] at h0 ⊢
   by_cases h2 : resE d p (strp ds (fr + k)) = 0
   ·rw [if_pos h2] at h0 ⊢
    obtain ⟨r1, r2, r3, _⟩ := strp_rows h (by omega) h2
    have ih := getTo_len h (k := k) (by omega) h1
    have := flat_len8 (m := (resS d p (strp ds (fr + k))).2.2.take d.toNat) (fun l hl => r2 l (List.mem_of_mem_take hl))
    have hd := h.len
    have hp := h.p0
    have hd1 := h.d1
    rw [List.length_take] at this
    simp only [List.length_append, ih, this]
    rw [show min d.toNat (resS d p (strp ds (fr + k))).2.2.length = d.toNat by omega, Nat.add_mul, Nat.add_mul, Nat.one_mul]
   ·rw [if_neg h2] at h0; exact absurd h0 h2
  ·rw [if_neg h1] at h0; exact absurd h0 h1
theorem getTo_stay {d p : Int} {ds : List Dk} {fr k : Nat} (h : (getTo d p ds fr k).2 ≠ 0) : ∀ {n : Nat}, k ≤ n → getTo d p ds fr n = getTo d p ds fr k
 | 0, hn => by rw [show k = 0 by omega]
 | n + 1, hn => by
  rcases Nat.lt_or_ge k (n + 1) with h1 | h1
  ·have ih := getTo_stay h (n := n) (by omega)
   rw [getTo, ih, if_neg h]
  ·rw [show k = n + 1 by omega]
theorem OkS.ob {d p : Int} {ds : List Dk} {os : List Ob} (h : OkS d p ds os) {i : Nat} {o : Ob} (hi : os[i]? = some o) :
  0 ≤ o.from_ ∧ 0 ≤ o.many ∧ o.many ≤ 40 ∧ o.from_ + o.many ≤ strN os ∧ 0 ≤ o.size ∧ o.size ≤ 256 ∧ o.many = ned o.size d ∧ o.size ≤ o.many * d * 8 ∧ namB o.name.data.toList = true ∧ o.from_ = strN (os.take i) := by
 have h1 := desB_iff.1 h.des i o hi
 unfold oneO objB at h1
 simp only [Bool.and_eq_true, decide_eq_true_eq, beq_iff_eq] at h1
 obtain ⟨⟨h2, h3, h4, h5, h6, _⟩, _⟩ := h1
 have sm := h.sm o (List.mem_of_getElem? hi)
 have s1 := (strN_bd (h.sm.take_ i)).1
 have s2 := strN_take hi
 have s3 : strN (os.take (i + 1)) ≤ strN os := by
  have : strN os = strN (os.take (i + 1)) + strN (os.drop (i + 1)) := by
   unfold strN; rw [← List.sum_append, ← List.map_append, List.take_append_drop]
  have h9 : smO (os.drop (i + 1)) := fun o ho => h.sm o (List.mem_of_mem_drop ho)
  have := (strN_bd h9).1
  omega
 have hd1 := h.d1
 have hd8 := h.d8
 refine ⟨by omega, sm.1, sm.2, by omega, h3, h4, h5, ?_, h2, h6⟩
 rw [h5]
 unfold ned
 have e := Int.emod_add_mul_ediv (o.size + 8 * d - 1) (8 * d)
 have e2 := Int.emod_lt_of_pos (o.size + 8 * d - 1) (show 0 < 8 * d by omega)
 generalize (o.size + 8 * d - 1) / (8 * d) = t at *
 generalize (o.size + 8 * d - 1) % (8 * d) = r at *
 have : t * d * 8 = 8 * d * t := by grind
 omega
theorem findL_lt {os : List Ob} {l : List UInt8} (h : 0 ≤ findL os l) : ∃ (i : Nat) (o : Ob), findL os l = (i : Int) ∧ os[i]? = some o ∧ nmE o l = true := by
 unfold findL at h ⊢
 cases e : os.findIdx? (fun o => nmE o l) with
 | none => rw [e] at h; simp at h
 | some i =>
  have h1 := List.findIdx?_eq_some_iff_getElem.1 e
  obtain ⟨h2, h3, _⟩ := h1
  exact ⟨i, os[i], rfl, List.getElem?_eq_getElem h2, h3⟩
end Go.Proofs.Ytapehckcmmompaa
