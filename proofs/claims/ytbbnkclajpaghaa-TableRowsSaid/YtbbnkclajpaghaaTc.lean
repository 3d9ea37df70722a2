/- Contracts of weight.Check (layer 22) and of its reference. -/
import Derived.Test.YtbbnkclajpaghaaTb
import Derived.OpenShut
namespace Go.Proofs.Ytbbnkclajpaghaa
open Go.ChangeShapes Go.WideShapes Go.ChangeAt Go.RowKit Cxm
set_option linter.unusedVariables false

theorem quiet_more {P : Program} {f : FuncId} {args : Array Value} {w : World} {n : Nat} {v : Value}
    (h : Calls P f args (w.drewN n) fun e w' => e = .returned v ∧ ∃ m, w' = (w.drewN n).drewN m) : Calls P f args (w.drewN n) fun e w'' => e = .returned v ∧ ∃ m, w'' = w.drewN m :=
  h.mono fun _ _ ⟨he, m, hm⟩ => ⟨he, n + m, by rw [hm, World.drewN_drewN]⟩
theorem below_drewN {B : Nat} {a w : World} (h : Below B a w) (n : Nat) : Below B a (w.drewN n) := ⟨h.os, h.tape, h.output, h.size, h.block⟩
theorem max_neg (a : Int) : (if a < -a then -a else a) = (a.natAbs : Int) := by split <;> omega

set_option maxHeartbeats 400000 in
theorem gcd_calls (a b : Int) (ha : -4000000000000000000 ≤ a) (ha' : a ≤ 4000000000000000000) (hb : -4000000000000000000 ≤ b) (hb' : b ≤ 4000000000000000000) (w : World) :
    Calls Try.prog 62 #[.int .i64 a, .int .i64 b] w fun e w' => e = .returned (.int .i64 (g2 a b)) ∧ ∃ m, w' = w.drewN m := by
  generalize hg : g2 a b = g
  have HG := Lib.hid hg
  clear hg
  go_enter Try.func62, Try.ntmps62
  go_wp2
  go_loopw [0, 1] (fun p q wr => ∃ x y : Int, ∃ n : Nat, p = .int .i64 x ∧ q = .int .i64 y ∧ wr = w.drewN n ∧ Hid (g2 x y = g) ∧ -4000000000000000000 ≤ x ∧ x ≤ 4000000000000000000 ∧ -4000000000000000000 ≤ y ∧ y ≤ 4000000000000000000) (fun _ q _ => (intOf q).natAbs)
  case atStart => exact ⟨a, b, 0, rfl, rfl, rfl, HG, by omega, by omega, by omega, by omega⟩
  case round =>
    obtain ⟨x, y, n, rfl, rfl, rfl, HX, h1, h2, h3, h4⟩ := hrel
    by_cases hy : y = 0
    · have hy' : (y != 0) = false := by simp [hy]
      have HY := Lib.hid hy
      clear hy
      go_wp2
      all_goals
        go_ret
        refine ⟨ret_int ?_, n, rfl⟩
        have e := HX.out
        rw [HY.out, g2_zero] at e
        omega
    · have hy' : (y != 0) = true := by simp [hy]
      have HY := Lib.hid hy
      clear hy
      have hb := tmod_bd x y HY.out
      have HS := Lib.hid (g2_step x y)
      have hw : IntKind.i64.wrap (x.tmod y) = x.tmod y := IntWalk.i64_in _ (by omega)
      go_wp2
      go_quiet (fail)
      go_wp2
      refine ⟨⟨y, x.tmod y, n + nq, rfl, rfl, by rw [World.drewN_drewN], Lib.hid (by rw [HS.out]; exact HX.out), by omega, by omega, by omega, by omega⟩, ?_⟩
      simp only [intOf]; omega
theorem fits_calls (a : Int) (w : World) :
    Calls Try.prog 61 #[.int .i64 a] w fun e w' => e = .returned (.bool (fitsB a)) ∧ ∃ m, w' = w.drewN m := by
  by_cases h : -1000000000 ≤ a
  all_goals
    go_enter Try.func61, Try.ntmps61
    go_wp2
    go_ret
    refine ⟨?_, 0, rfl⟩
    simp [fitsB, h]
    try omega

theorem fits_bd {x : Int} (h : fitsB x = true) : -1000000000 ≤ x ∧ x ≤ 1000000000 := by simpa [fitsB] using h
theorem isWeight_calls (n : Int) (w : World) : Calls Try.prog 46 #[.int .i64 n] w fun e w' => e = .returned (.bool (decide (0 ≤ n) && decide (n ≤ 1000000))) ∧ ∃ m, w' = w.drewN m := by
  by_cases h : 0 ≤ n
  all_goals
    go_enter Try.func46, Try.ntmps46
    go_wp2
    go_ret
    refine ⟨?_, 0, rfl⟩
    simp [h]
    try omega
set_option maxHeartbeats 2000000 in
theorem isValue_calls (re im dn : Int) (w : World) : Calls Try.prog 45 #[.agg #[.int .i64 re, .int .i64 im, .int .i64 dn]] w fun e w' => e = .returned (.bool (chkB re im dn)) ∧ Below w.heap.size w w' := by
  generalize hv : chkB re im dn = v
  have hc : dn < 1 ∨ (1 ≤ dn ∧ 1000000000 < dn) ∨ (1 ≤ dn ∧ dn ≤ 1000000000) := by omega
  have FI : Hid (∀ x : Int, ∀ W : World, Calls Try.prog 61 #[.int .i64 x] W fun e w' => e = .returned (.bool (fitsB x)) ∧ ∃ m, w' = W.drewN m) := Lib.hid fun x W => fits_calls x W
  rcases hc with c | ⟨c, c2⟩ | ⟨c, c2⟩
  · have F : v = false := by rw [← hv]; unfold chkB; rw [decide_eq_false (by omega)]; rfl
    have HF := Lib.hid F
    have d1 : decide (1 ≤ dn) = false := by simpa using c
    clear F hv FI
    go_enter Try.func45, Try.ntmps45
    go_wp2_with fail
    go_quiet (fail)
    go_wp2_with fail
    go_ret
    exact ⟨ret_bool HF.out.symm, below_drewN (Bal (Below.refl _ _) _) _⟩
  · have F : v = false := by rw [← hv]; unfold chkB; rw [decide_eq_false (by omega)]; rfl
    have HF := Lib.hid F
    have d1 : decide (1 ≤ dn) = true := by simpa using c
    have d2 : decide (dn ≤ 1000000000) = false := by simpa using c2
    clear F hv FI
    go_enter Try.func45, Try.ntmps45
    go_wp2_with fail
    go_quiet (fail)
    go_wp2_with fail
    go_ret
    exact ⟨ret_bool HF.out.symm, below_drewN (Bal (Below.refl _ _) _) _⟩
  have d1 : decide (1 ≤ dn) = true := by simpa using c
  have d2 : decide (dn ≤ 1000000000) = true := by simpa using c2
  have hv1 : (fitsB re && (fitsB im && decide (g3 re im dn = 1))) = v := by rw [← hv]; unfold chkB; rw [decide_eq_true (by omega : 1 ≤ dn ∧ dn ≤ 1000000000)]; rfl
  clear hv
  have F1 := FI.out re
  cases hr : fitsB re
  · have HF : Hid (v = false) := Lib.hid (by rw [← hv1, hr]; rfl)
    rw [hr] at F1
    have HF1 := Lib.hid F1
    clear hv1 FI F1 hr
    go_enter Try.func45, Try.ntmps45
    go_wp2_with fail
    go_quiet ((go_at_call 61; (with_reducible exact quiet_more (HF1.out _))))
    go_wp2_with fail
    go_ret
    exact ⟨ret_bool HF.out.symm, below_drewN (Bal (Below.refl _ _) _) _⟩
  have F2 := FI.out im
  cases hi : fitsB im
  · have HF : Hid (v = false) := Lib.hid (by rw [← hv1, hr, hi]; rfl)
    rw [hr] at F1
    rw [hi] at F2
    have HF1 := Lib.hid F1
    have HF2 := Lib.hid F2
    clear hv1 FI F1 F2 hr hi
    go_enter Try.func45, Try.ntmps45
    go_wp2_with fail
    go_quiet ((first | (go_at_call 61; (with_reducible exact quiet_more (HF1.out _))) | (go_at_call 61; (with_reducible exact quiet_more (HF2.out _)))))
    go_wp2_with fail
    go_ret
    exact ⟨ret_bool HF.out.symm, below_drewN (Bal (Below.refl _ _) _) _⟩
  have b1 := fits_bd hr
  have b2 := fits_bd hi
  have gb := g2_bd re im 1000000000 (by omega) (by omega)
  have gn := g2_nonneg re im
  have G1 : Hid (∀ W : World, Calls Try.prog 62 #[.int .i64 re, .int .i64 im] W fun e w' => e = .returned (.int .i64 (g2 re im)) ∧ ∃ m, w' = W.drewN m) := Lib.hid fun W => gcd_calls re im (by omega) (by omega) (by omega) (by omega) W
  have hv2 : decide (g3 re im dn = 1) = v := by rw [← hv1, hr, hi]; rfl
  unfold g3 at hv2
  generalize g2 re im = x at *
  have G2 : Hid (∀ W : World, Calls Try.prog 62 #[.int .i64 x, .int .i64 dn] W fun e w' => e = .returned (.int .i64 (g2 x dn)) ∧ ∃ m, w' = W.drewN m) := Lib.hid fun W => gcd_calls x dn (by omega) (by omega) (by omega) (by omega) W
  generalize g2 x dn = y at *
  have HF := Lib.hid hv2
  rw [hr] at F1
  rw [hi] at F2
  have HF1 := Lib.hid F1
  have HF2 := Lib.hid F2
  clear hv1 hv2 FI F1 F2 hr hi b1 b2 gb gn
  go_enter Try.func45, Try.ntmps45
  go_wp2_with fail
  go_quiet ((first | (go_at_call 61; (with_reducible exact quiet_more (HF1.out _))) | (go_at_call 61; (with_reducible exact quiet_more (HF2.out _))) | (go_at_call 62; (with_reducible exact quiet_more (G1.out _))) | (go_at_call 62; (with_reducible exact quiet_more (G2.out _)))))
  go_wp2_with fail
  go_ret
  exact ⟨ret_bool HF.out, below_drewN (Bal (Below.refl _ _) _) _⟩
end Go.Proofs.Ytbbnkclajpaghaa
