/- Several texts in one. -/
import Derived.Test.YtapehckcmmompaaM14
namespace Go.Proofs.Ytapehckcmmompaa
open Go.ChangeShapes Go.WideShapes Go.ChangeAt Go.RowKit
set_option linter.unusedVariables false
set_option maxRecDepth 100000
def menL (d p : Int) (ds : List Dk) (k n : Nat) : List Nat := (resS d p (keepL (strp ds k) (goneB [(n : Int)]))).2.2.getD n []
def menDs (d p : Int) (ds : List Dk) (k n : Nat) : List Dk := ds.set n ⟨(ds.getD n ⟨false, []⟩).failed, (ds.getD n ⟨false, []⟩).blocks.set k (menL d p ds k n)⟩
def menE (d p : Int) (ds : List Dk) (os : List Ob) (x : Int) : Int :=
 if chS d p ds os = 0 then if 0 ≤ x ∧ x < strN os then (fndV d p (strp ds x.toNat)).2 else 2 else chS d p ds os
def menD (d p : Int) (ds : List Dk) (os : List Ob) (x : Int) : Int := if menE d p ds os x = 0 then (fndV d p (strp ds x.toNat)).1 else 0
def menS (d p : Int) (ds : List Dk) (os : List Ob) (x : Int) : So :=
 if menE d p ds os x = 0 then
  if (fndV d p (strp ds x.toNat)).1 < 0 then (d, p, ds, os) else (d, p, menDs d p ds x.toNat (fndV d p (strp ds x.toNat)).1.toNat, os)
 else noS
theorem menE_bad {d p : Int} {ds : List Dk} {os : List Ob} {x : Int} (h : chS d p ds os ≠ 0) : menE d p ds os x = chS d p ds os := if_neg h
theorem menE_arg {d p : Int} {ds : List Dk} {os : List Ob} {x : Int} (h : chS d p ds os = 0) (hx : ¬ (0 ≤ x ∧ x < strN os)) : menE d p ds os x = 2 := by
 unfold menE; rw [if_pos h, if_neg hx]
theorem menE_at {d p : Int} {ds : List Dk} {os : List Ob} {k : Nat} (h : chS d p ds os = 0) (hx : (k : Int) < strN os) : menE d p ds os (k : Int) = (fndV d p (strp ds k)).2 := by
 unfold menE; rw [if_pos h, if_pos ⟨by omega, hx⟩, Int.toNat_natCast]
theorem men_err {d p : Int} {ds : List Dk} {os : List Ob} {x er : Int} (h : menE d p ds os x = er) (h0 : er ≠ 0) : menS d p ds os x = noS ∧ menD d p ds os x = 0 := by
 unfold menS menD; rw [h, if_neg h0, if_neg h0]; exact ⟨rfl, rfl⟩
theorem men_sound {d p : Int} {ds : List Dk} {os : List Ob} {k : Nat} (h : menE d p ds os (k : Int) = 0) (h0 : (fndV d p (strp ds k)).1 < 0) : menS d p ds os (k : Int) = (d, p, ds, os) ∧ menD d p ds os (k : Int) = (fndV d p (strp ds k)).1 := by
 unfold menS menD; rw [h, if_pos rfl, if_pos rfl, Int.toNat_natCast, if_pos h0]; exact ⟨rfl, rfl⟩
theorem men_wrong {d p : Int} {ds : List Dk} {os : List Ob} {k n : Nat} (h : menE d p ds os (k : Int) = 0) (h0 : (fndV d p (strp ds k)).1 = (n : Int)) : menS d p ds os (k : Int) = (d, p, menDs d p ds k n, os) ∧ menD d p ds os (k : Int) = (n : Int) := by
 unfold menS menD; rw [h, if_pos rfl, if_pos rfl, Int.toNat_natCast, h0, if_neg (by omega), Int.toNat_natCast]; exact ⟨rfl, rfl⟩
theorem fndTo_in {D M : Nat} {m : List (List Nat)} : ∀ {n : Nat}, (fndTo D M m n).2 ≠ 0 → (fndTo D M m n).1 < n ∧ rstE D M (keepL m (oneB (fndTo D M m n).1)) = 0
 | 0, h => by simp [fndTo] at h
 | n + 1, h => by
  rw [fndTo] at h ⊢
  by_cases hr : rstE D M (keepL m (oneB n)) = 0
  ·rw [if_pos hr]; exact ⟨by simp, hr⟩
  ·rw [if_neg hr] at h ⊢
   have := fndTo_in h
   exact ⟨by omega, this.2⟩
theorem lostN_pos {m : List (List Nat)} (h : [] ∈ m) : 0 < lostN m := by
 induction m with
 | nil => cases h
 | cons a m ih =>
  simp only [lostN]
  rcases List.mem_cons.1 h with e | e
  ·rw [← e]; simp; omega
  ·have := ih e; omega
theorem goneB_one (n : Nat) : goneB [(n : Int)] = oneB n := by
 funext i
 unfold goneB oneB
 rw [Bool.eq_iff_iff]
 simp; omega
theorem keepL_ok {D M : Nat} {m : List (List Nat)} (h : Ok D M m) (p : Nat → Bool) (hz : szL (keepL m p) ≠ 0) : Ok D M (keepL m p) := by
 have hk := h.keep p
 have e : szL (keepL m p) = szL m := by
  obtain ⟨l, hl, e2⟩ := szL_mem hz
  rcases hk.each l hl with e3 | e3 <;> omega
 refine ⟨h.d1, h.d8, h.m4, by rw [keepL_len]; exact h.len, by omega, by rw [e]; exact h.s64, fun l hl => by rw [e]; exact hk.each l hl⟩
structure MenF (d p : Int) (ds : List Dk) (k n : Nat) : Prop where
 lt : n < ds.length
 live : ∀ x, ds[n]? = some x → x.failed = false
 lose : loseE d p (strp ds k) [(n : Int)] = 0
 loseS : loseS d p (strp ds k) [(n : Int)] = (d, p, keepL (strp ds k) (goneB [(n : Int)]))
 res : resE d p (keepL (strp ds k) (goneB [(n : Int)])) = 0
 rows : (resS d p (keepL (strp ds k) (goneB [(n : Int)]))).2.2.length = ds.length
 eight : ∀ l ∈ (resS d p (keepL (strp ds k) (goneB [(n : Int)]))).2.2, l.length = 8
theorem men_found {d p : Int} {ds : List Dk} {os : List Ob} (h : OkS d p ds os) {k : Nat} (hk : (k : Int) < strN os) (he : (fndV d p (strp ds k)).2 = 0) (hx : 0 ≤ (fndV d p (strp ds k)).1) : ∃ n : Nat, (fndV d p (strp ds k)).1 = (n : Int) ∧ MenF d p ds k n := by
 have ck := strp_chk h hk
 have ok := strp_ok h hk
 have sz := strp_size h hk
 unfold fndV at he hx ⊢
 rw [if_neg (by rw [ck]; decide)] at he hx ⊢
 by_cases h1 : 0 < lostN (strp ds k)
 ·rw [if_pos h1] at he; cases he
 ·rw [if_neg h1] at he hx ⊢
  by_cases h2 : sndB d.toNat p.toNat (strp ds k) = true
  ·rw [if_pos h2] at hx; exact absurd hx (by decide)
  ·rw [if_neg h2] at he hx ⊢
   by_cases h3 : (fndTo d.toNat p.toNat (strp ds k) (strp ds k).length).2 ≠ 1
   ·rw [if_pos h3] at he; cases he
   ·rw [if_neg h3] at he hx ⊢
    have h4 := fndTo_in (D := d.toNat) (M := p.toNat) (m := strp ds k) (n := (strp ds k).length) (by omega)
    generalize (fndTo d.toNat p.toNat (strp ds k) (strp ds k).length).1 = n at *
    obtain ⟨h5, h6⟩ := h4
    rw [strp_len] at h5
    rw [← goneB_one] at h6
    have l0 := rstE_zero h6
    have hlen := h.len
    have hd1 := h.d1
    have hp0 := h.p0
    have nz : szL (keepL (strp ds k) (goneB [(n : Int)])) ≠ 0 := fun e => by
     have := lost_all.2 e
     rw [keepL_len, strp_len] at this; omega
    have ko := keepL_ok ok (goneB [(n : Int)]) nz
    have kc : chkE d p (keepL (strp ds k) (goneB [(n : Int)])) = 0 := by
     have := ok_chkE ko
     rwa [Int.toNat_of_nonneg (by omega), Int.toNat_of_nonneg hp0] at this
    have kr : resE d p (keepL (strp ds k) (goneB [(n : Int)])) = 0 := by unfold resE; rw [if_pos kc]; exact h6
    have ks : szL (keepL (strp ds k) (goneB [(n : Int)])) = 8 := by
     obtain ⟨l, hl, e2⟩ := szL_mem nz
     rcases (ok.keep (goneB [(n : Int)])).each l hl with e3 | e3 <;> omega
    have lE : loseE d p (strp ds k) [(n : Int)] = 0 := by
     have hin : inB (strp ds k).length [(n : Int)] = true := inB_true (fun j x hj => by
      cases j with
      | zero => simp at hj; subst hj; rw [strp_len]; omega
      | succ j => simp at hj)
     unfold loseE
     rw [if_neg (by rw [ck]; decide), if_neg (by rw [hin]; decide), if_pos (by simp), if_neg nz]
    have er : resS d p (keepL (strp ds k) (goneB [(n : Int)])) = (d, p, enc (dataL d.toNat p.toNat (keepL (strp ds k) (goneB [(n : Int)]))) p.toNat) := by unfold resS; rw [kr, if_pos rfl]
    have dr := dataL_rows ko l0
    rw [ks] at dr
    have dl := dataL_len d.toNat p.toNat (keepL (strp ds k) (goneB [(n : Int)]))
    have od : OkD (dataL d.toNat p.toNat (keepL (strp ds k) (goneB [(n : Int)]))) 8 := ⟨by rw [dl]; exact ok.d1, by rw [dl]; exact ok.d8, by omega, by omega, dr⟩
    refine ⟨n, rfl, h5, fun x hx' => ?_, lE, by unfold loseS; rw [lE, if_pos rfl], kr, ?_, ?_⟩
    ·cases e : x.failed with
     | false => rfl
     | true =>
      exfalso
      refine h1 (lostN_pos (List.mem_iff_getElem?.2 ⟨n, ?_⟩))
      have := strp_get (k := k) hx'
      rw [e] at this; simpa using this
    ·rw [er]
     simp only [enc_len, dl]
     omega
    ·rw [er]; exact enc_rows od _
end Go.Proofs.Ytapehckcmmompaa
