/- Contracts of layer 1: Make, of the program and of the reference. -/
import Derived.Test.YtfangplfbbgphaaFre
import Derived.StillTailTactics
namespace Go.Proofs.Ytfangplfbbgphaa
open Go.ChangeShapes Go.WideShapes Go.ChangeAt Go.RowKit
set_option linter.unusedVariables false
set_option maxRecDepth 100000
attribute [local go_sem ↓] Go.wp_at_zero Go.wp_at_succ

theorem wrapN (q : Nat) (h : q < 18446744073709551616) : IntKind.u64.wrap (q : Int) = (q : Int) := by rw [IntKind.wrap_u64]; omega
def makeF (num den : Int) : Int × Int × Int := if den = 0 then (0, 0, 18) else lowF (decide (num < 0) != decide (den < 0)) (num.natAbs / Nat.gcd num.natAbs den.natAbs) (den.natAbs / Nat.gcd num.natAbs den.natAbs)
set_option maxHeartbeats 2000000 in
theorem make_calls (num den : Int) (w : World) (h1 : -9223372036854775808 ≤ num) (h2 : num ≤ 9223372036854775807) (h3 : -9223372036854775808 ≤ den) (h4 : den ≤ 9223372036854775807) :
    Calls Try.prog 61 #[.int .i64 num, .int .i64 den] w fun e w' => e = .returned (Rv (makeF num den)) ∧ Below w.heap.size w w' := by
  by_cases hd : den = 0
  · have F : Hid (makeF num den = (0, 0, 18)) := Lib.hid (by unfold makeF; rw [if_pos hd])
    generalize makeF num den = v at *
    subst hd
    go_enter Try.func61, Try.ntmps61
    go_wp2_with fail
    refine bodyPost_ret (v := .tuple #[Fv 0 0, .int .i64 18]) (by simp [results, Try.results61, go_sem]) rfl ⟨by rw [F.out], ?_⟩
    repeat (first | exact Below.refl _ _ | refine Bal ?_ _ | refine Bset1 ?_ (by simp) _ _)
  · have F : Hid (makeF num den = lowF (decide (num < 0) != decide (den < 0)) (num.natAbs / Nat.gcd num.natAbs den.natAbs) (den.natAbs / Nat.gcd num.natAbs den.natAbs)) := Lib.hid (by unfold makeF; rw [if_neg hd])
    have hne : (den == 0) = false := by simpa using hd
    generalize makeF num den = v at *
    have hg0 : 0 < Nat.gcd num.natAbs den.natAbs := Nat.gcd_pos_of_pos_right _ (by omega)
    have S1 := Lib.hid (fun W => size_calls num W h1 h2)
    have S2 := Lib.hid (fun W => size_calls den W h3 h4)
    have hx : num.natAbs ≤ 9223372036854775808 := by omega
    have hy : den.natAbs ≤ 9223372036854775808 := by omega
    generalize num.natAbs = x at *
    generalize den.natAbs = y at *
    have GC := Lib.hid (fun W => gcd_calls x y W (by omega) (by omega))
    generalize Nat.gcd x y = g at *
    have tx : (x : Int).tdiv (g : Int) = ((x / g : Nat) : Int) := by rw [Int.tdiv_eq_ediv_of_nonneg (by omega), Int.natCast_ediv]
    have ty : (y : Int).tdiv (g : Int) = ((y / g : Nat) : Int) := by rw [Int.tdiv_eq_ediv_of_nonneg (by omega), Int.natCast_ediv]
    have hx1 : x / g ≤ 9223372036854775808 := Nat.le_trans (Nat.div_le_self _ _) hx
    have hy1 : y / g ≤ 9223372036854775808 := Nat.le_trans (Nat.div_le_self _ _) hy
    generalize x / g = x1 at *
    generalize y / g = y1 at *
    have BC : Hid (∀ W, Calls Try.prog 79 #[.bool (!(decide (num < 0) == decide (den < 0))), .int .u64 x1, .int .u64 y1] W fun e w' => e = .returned (Rv (lowF (decide (num < 0) != decide (den < 0)) x1 y1)) ∧ Below W.heap.size W w') := Lib.hid (fun W => build_calls (decide (num < 0) != decide (den < 0)) x1 y1 W (by omega) (by omega))
    go_enter Try.func61, Try.ntmps61
    go_wp2_with fail
    refine (S1.out _).mono ?_
    rintro e w1 ⟨rfl, rfl⟩
    go_wp2_with fail
    refine (S2.out _).mono ?_
    rintro e w2 ⟨rfl, rfl⟩
    go_wp2_with fail
    refine (GC.out _).mono ?_
    rintro e w3 ⟨rfl, n3, rfl⟩
    go_wp2_with fail
    have Z0 : Hid (((w.alloc (.cells #[.int .i64 0, .int .i64 0] 34)).drewN n3).heap[w.heap.size]? = some (.cells #[.int .i64 0, .int .i64 0] 34)) := Lib.hid (blk_new w _)
    have N0 : Hid (Below w.heap.size w ((w.alloc (.cells #[.int .i64 0, .int .i64 0] 34)).drewN n3)) := Lib.hid (below_drewN (Bal (Below.refl _ _) _) _)
    generalize (w.alloc (.cells #[.int .i64 0, .int .i64 0] 34)).drewN n3 = W at *
    have gp2 : ¬ ((g : Int) = 0) := by omega
    have gp3 : ((g : Int) == 0) = false := by simpa using gp2
    have wx : IntKind.u64.wrap (x1 : Int) = (x1 : Int) := wrapN _ (by omega)
    have wy : IntKind.u64.wrap (y1 : Int) = (y1 : Int) := wrapN _ (by omega)
    generalize lowF (decide (num < 0) != decide (den < 0)) x1 y1 = r at *
    obtain ⟨r1, r2, r3⟩ := r
    have gp4 : ¬ g = 0 := by omega
    go_region_held3 (fun W => True) (trivial) ((go_at_call 79; (with_reducible refine (BC.out _).mono ?_); rintro e w4 ⟨rfl, hb⟩; have Z1 : Hid (w4.heap[w.heap.size]? = some (.cells #[.int .i64 0, .int .i64 0] 34)) := Lib.hid (by first | exact blk_next hb Z0.out | exact blk_next (W := W.drew) hb Z0.out); have N1 : Hid (Below w.heap.size w w4) := Lib.hid (by first | exact Bgo N0.out hb | exact Bgo N0.out.drew hb); have z0 : w4.cell? ⟨w.heap.size, 0, none⟩ = some (.int .i64 0) := blk_cell Z1.out 0 _ rfl; have z1 : w4.cell? ⟨w.heap.size, 1, none⟩ = some (.int .i64 0) := blk_cell Z1.out 1 _ rfl; have f0 : w4.frozen? ⟨w.heap.size, 0, none⟩ = false := blk_frozen Z1.out 0; have f1 : w4.frozen? ⟨w.heap.size, 1, none⟩ = false := blk_frozen Z1.out 1; clear hb))
    go_wp2_with fail
    have e1 : ((w4.setCell ⟨w.heap.size, 0, none⟩ (.int .i64 r1)).setCell ⟨w.heap.size, 1, none⟩ (.int .i64 r2)).cell? ⟨w.heap.size, 0, none⟩ = some (.int .i64 r1) := blk_cell (blk_set (blk_set Z1.out 0 _) 1 _) 0 _ rfl
    have e2 : ((w4.setCell ⟨w.heap.size, 0, none⟩ (.int .i64 r1)).setCell ⟨w.heap.size, 1, none⟩ (.int .i64 r2)).cell? ⟨w.heap.size, 1, none⟩ = some (.int .i64 r2) := blk_cell (blk_set (blk_set Z1.out 0 _) 1 _) 1 _ rfl
    refine bodyPost_ret (v := .tuple #[Fv r1 r2, .int .i64 r3]) (by simp [results, Try.results61, go_sem, e1, e2]) rfl ⟨by rw [F.out], Bset1 (Bset1 N1.out (by omega) _ _) (by omega) _ _⟩
theorem bigN_two (n : Nat) (h : n < 18446744073709551616) : bigN (n % 4294967296) (n / 4294967296) 0 0 = n := by
  unfold bigN; omega
end Go.Proofs.Ytfangplfbbgphaa
