/- Contracts of layer 1: valid fractions, of the reference; two fractions. -/
import Derived.Test.YtfangplfbbgphaaFrb
namespace Go.Proofs.Ytfangplfbbgphaa
open Go.ChangeShapes Go.WideShapes Go.ChangeAt Go.RowKit
set_option linter.unusedVariables false
set_option maxRecDepth 100000
attribute [local go_sem ↓] Go.wp_at_zero Go.wp_at_succ

set_option maxHeartbeats 4000000 in
theorem refCheck_calls (n d : Int) (w : World) :
    Calls Try.prog 80 #[Fv n d] w fun e w' => e = .returned (.int .i64 (errF n d)) ∧ Below w.heap.size w w' := by
  by_cases hin : 1 ≤ d ∧ d ≤ 1000000000000000000 ∧ -1000000000000000000 ≤ n ∧ n ≤ 1000000000000000000
  · have F := Lib.hid (errF_in hin)
    generalize errF n d = v at *
    obtain ⟨h1, h2, h3, h4⟩ := hin
    obtain ⟨g, hg⟩ : ∃ g : Nat, Nat.gcd n.natAbs d.natAbs = g := ⟨_, rfl⟩
    have GC : Hid (∀ W : World, Calls Try.prog 66 #[.int .u64 (n.natAbs : Int), .int .u64 d] W fun e w' => e = .returned (.int .u64 (g : Int)) ∧ ∃ m, w' = W.drewN m) := Lib.hid (fun W => by
      have := refGcd_calls n.natAbs d.natAbs W (by omega) (by omega)
      rw [hg, show ((d.natAbs : Nat) : Int) = d by omega] at this; exact this)
    rw [hg] at F
    clear hg
    have k1 : decide (d < 1) = false := by simp; omega
    have k2 : decide (1000000000000000000 < d) = false := by simp; omega
    have k3 : decide (n < -1000000000000000000) = false := by simp; omega
    have k4 : decide (1000000000000000000 < n) = false := by simp; omega
    have hw1 : IntKind.u64.wrap d = d := by rw [IntKind.wrap_u64]; omega
    by_cases hg1 : g = 1
    · have F2 : Hid (v = 0) := Lib.hid (by rw [F.out, hg1]; rfl)
      have q : ((g : Int) != 1) = false := by rw [hg1]; rfl
      clear hg1 F
      go_enter Try.func80, Try.ntmps80
      go_wp2_with fail
      go_quiet ((first | (go_at_call 67; exact quiet_left (abs_calls _ _ (by omega) (by omega))) | (go_at_call 66; exact quiet_more (GC.out _))))
      go_wp2_with fail
      go_ret
      exact ⟨ret_int F2.out.symm, below_drewN (Bal (Below.refl _ _) _) _⟩
    · have F2 : Hid (v = 8) := Lib.hid (by rw [F.out, if_neg (by simpa using hg1)])
      have q : ((g : Int) != 1) = true := by rw [bne_iff_ne]; omega
      clear hg1 F
      go_enter Try.func80, Try.ntmps80
      go_wp2_with fail
      go_quiet ((first | (go_at_call 67; exact quiet_left (abs_calls _ _ (by omega) (by omega))) | (go_at_call 66; exact quiet_more (GC.out _))))
      go_wp2_with fail
      go_ret
      exact ⟨ret_int F2.out.symm, below_drewN (Bal (Below.refl _ _) _) _⟩
  · have F := Lib.hid (errF_out hin)
    generalize errF n d = v at *
    have hc : decide (d < 1) = true ∨ (decide (d < 1) = false ∧ decide (1000000000000000000 < d) = true) ∨ (decide (d < 1) = false ∧ decide (1000000000000000000 < d) = false ∧ decide (n < -1000000000000000000) = true) ∨ (decide (d < 1) = false ∧ decide (1000000000000000000 < d) = false ∧ decide (n < -1000000000000000000) = false ∧ decide (1000000000000000000 < n) = true) := by
      simp only [decide_eq_true_eq, decide_eq_false_iff_not]; omega
    clear hin
    rcases hc with h | ⟨h, h'⟩ | ⟨h, h', h''⟩ | ⟨h, h', h'', h3⟩
    all_goals
      go_enter Try.func80, Try.ntmps80
      go_wp2_with fail
      go_quiet (fail)
      go_wp2_with fail
      go_ret
      exact ⟨ret_int F.out.symm, below_drewN (Bal (Below.refl _ _) _) _⟩
def errB (an ad bn bd : Int) : Int := if errF an ad ≠ 0 then errF an ad else errF bn bd
theorem blk1 (w : World) (x y : Obj) : ((w.alloc x).alloc y).heap[w.heap.size]? = some x := blk_alloc (blk_new w x) y
theorem blk2 (w : World) (x y : Obj) : ((w.alloc x).alloc y).heap[w.heap.size + 1]? = some y := blk_at y (by simp)
set_option maxHeartbeats 1000000 in
theorem both_calls (an ad bn bd : Int) (w : World) :
    Calls Try.prog 50 #[Fv an ad, Fv bn bd] w fun e w' => e = .returned (.int .i64 (errB an ad bn bd)) ∧ Below w.heap.size w w' := by
  have F : Hid (errB an ad bn bd = if errF an ad ≠ 0 then errF an ad else errF bn bd) := Lib.hid rfl
  have C1 := Lib.hid (check_calls an ad)
  have C2 := Lib.hid (check_calls bn bd)
  generalize errB an ad bn bd = v at *
  generalize errF an ad = e1 at *
  generalize errF bn bd = e2 at *
  by_cases h : e1 = 0
  · subst h
    go_enter Try.func50, Try.ntmps50
    go_wp2_with fail
    refine (C1.out _).mono ?_
    rintro e w1 ⟨rfl, hb⟩
    have X := Lib.hid (blk_next hb (blk2 w _ _))
    have x0 : w1.cell? ⟨w.heap.size + 1, 0, none⟩ = some (.int .i64 bn) := blk_cell X.out 0 _ rfl
    have x1 : w1.cell? ⟨w.heap.size + 1, 1, none⟩ = some (.int .i64 bd) := blk_cell X.out 1 _ rfl
    have N1 : Hid (Below w.heap.size w w1) := Lib.hid (Bgo (Bal (Bal (Below.refl _ _) _) _) hb)
    clear hb
    go_wp2_with fail
    refine (C2.out _).mono ?_
    rintro e w2 ⟨rfl, hb⟩
    have N2 : Hid (Below w.heap.size w w2) := Lib.hid (Bgo N1.out hb)
    clear hb
    go_wp2_with fail
    go_ret
    exact ⟨ret_int (by rw [F.out]; simp), N2.out⟩
  · have hne : (e1 != 0) = true := by simpa using h
    go_enter Try.func50, Try.ntmps50
    go_wp2_with fail
    refine (C1.out _).mono ?_
    rintro e w1 ⟨rfl, hb⟩
    have N1 : Hid (Below w.heap.size w w1) := Lib.hid (Bgo (Bal (Bal (Below.refl _ _) _) _) hb)
    clear hb
    go_wp2_with fail
    go_ret
    exact ⟨ret_int (by rw [F.out, if_pos h]), N1.out⟩
set_option maxHeartbeats 1000000 in
theorem refBoth_calls (an ad bn bd : Int) (w : World) :
    Calls Try.prog 65 #[Fv an ad, Fv bn bd] w fun e w' => e = .returned (.int .i64 (errB an ad bn bd)) ∧ Below w.heap.size w w' := by
  have F : Hid (errB an ad bn bd = if errF an ad ≠ 0 then errF an ad else errF bn bd) := Lib.hid rfl
  have C1 := Lib.hid (refCheck_calls an ad)
  have C2 := Lib.hid (refCheck_calls bn bd)
  generalize errB an ad bn bd = v at *
  generalize errF an ad = e1 at *
  generalize errF bn bd = e2 at *
  by_cases h : e1 = 0
  · subst h
    go_enter Try.func65, Try.ntmps65
    go_wp2_with fail
    refine (C1.out _).mono ?_
    rintro e w1 ⟨rfl, hb⟩
    have X := Lib.hid (blk_next hb (blk2 w _ _))
    have x0 : w1.cell? ⟨w.heap.size + 1, 0, none⟩ = some (.int .i64 bn) := blk_cell X.out 0 _ rfl
    have x1 : w1.cell? ⟨w.heap.size + 1, 1, none⟩ = some (.int .i64 bd) := blk_cell X.out 1 _ rfl
    have N1 : Hid (Below w.heap.size w w1) := Lib.hid (Bgo (Bal (Bal (Below.refl _ _) _) _) hb)
    clear hb
    go_wp2_with fail
    refine (C2.out _).mono ?_
    rintro e w2 ⟨rfl, hb⟩
    have N2 : Hid (Below w.heap.size w w2) := Lib.hid (Bgo N1.out hb)
    clear hb
    go_wp2_with fail
    go_ret
    exact ⟨ret_int (by rw [F.out]; simp), N2.out⟩
  · have hne : (e1 != 0) = true := by simpa using h
    go_enter Try.func65, Try.ntmps65
    go_wp2_with fail
    refine (C1.out _).mono ?_
    rintro e w1 ⟨rfl, hb⟩
    have X := Lib.hid (blk_next hb (blk1 w _ _))
    have x0 : w1.cell? ⟨w.heap.size, 0, none⟩ = some (.int .i64 an) := blk_cell X.out 0 _ rfl
    have x1 : w1.cell? ⟨w.heap.size, 1, none⟩ = some (.int .i64 ad) := blk_cell X.out 1 _ rfl
    have N1 : Hid (Below w.heap.size w w1) := Lib.hid (Bgo (Bal (Bal (Below.refl _ _) _) _) hb)
    clear hb
    go_wp2_with fail
    refine (C1.out _).mono ?_
    rintro e w2 ⟨rfl, hb⟩
    have N2 : Hid (Below w.heap.size w w2) := Lib.hid (Bgo N1.out hb)
    clear hb
    go_wp2_with fail
    go_ret
    exact ⟨ret_int (by rw [F.out, if_pos h]), N2.out⟩
end Go.Proofs.Ytfangplfbbgphaa
