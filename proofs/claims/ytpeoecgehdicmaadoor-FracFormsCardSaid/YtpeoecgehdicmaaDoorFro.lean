/- Contracts of layer 1: comparisons of the reference. -/
import Derived.Test.YtpeoecgehdicmaaDoorFrn
namespace Go.Proofs.YtpeoecgehdicmaaDoor
open Go.ChangeShapes Go.WideShapes Go.ChangeAt Go.RowKit
set_option linter.unusedVariables false
attribute [local go_sem ↓] Go.wp_at_zero Go.wp_at_succ

theorem lt_digit {a b u v : Nat} (ha : a < 4294967296) (hb : b < 4294967296) : (a + 4294967296 * u < b + 4294967296 * v) ↔ (u < v ∨ (u = v ∧ a < b)) := by omega
theorem dg_split {x : Nat} (h : sm4 x) : ∃ u v : Nat, x = dg x 0 + 4294967296 * u ∧ u = dg x 1 + 4294967296 * v ∧ v = dg x 2 + 4294967296 * dg x 3 := by
  refine ⟨x / 4294967296, x / 4294967296 / 4294967296, ?_, ?_, ?_⟩
  · show x = x % 4294967296 + _
    omega
  · show x / 4294967296 = x / 4294967296 % 4294967296 + _
    omega
  · show x / 4294967296 / 4294967296 = x / 4294967296 / 4294967296 % 4294967296 + 4294967296 * (x / 4294967296 / 4294967296 / 4294967296 % 4294967296)
    unfold sm4 at h
    omega
theorem below_plain {x y : Nat} (hx : sm4 x) (hy : sm4 y) :
    (dg x 3 ≠ dg y 3 → decide (x < y) = decide (dg x 3 < dg y 3)) ∧ (dg x 3 = dg y 3 → dg x 2 ≠ dg y 2 → decide (x < y) = decide (dg x 2 < dg y 2)) ∧ (dg x 3 = dg y 3 → dg x 2 = dg y 2 → dg x 1 ≠ dg y 1 → decide (x < y) = decide (dg x 1 < dg y 1)) ∧
    (dg x 3 = dg y 3 → dg x 2 = dg y 2 → dg x 1 = dg y 1 → dg x 0 ≠ dg y 0 → decide (x < y) = decide (dg x 0 < dg y 0)) ∧ (dg x 3 = dg y 3 → dg x 2 = dg y 2 → dg x 1 = dg y 1 → dg x 0 = dg y 0 → decide (x < y) = false) := by
  obtain ⟨u, v, e1, e2, e3⟩ := dg_split hx
  obtain ⟨s, t, f1, f2, f3⟩ := dg_split hy
  have l0 := dg_lt x 0
  have l1 := dg_lt x 1
  have l2 := dg_lt x 2
  have m0 := dg_lt y 0
  have m1 := dg_lt y 1
  have m2 := dg_lt y 2
  have k : x < y ↔ (dg x 3 < dg y 3 ∨ (dg x 3 = dg y 3 ∧ (dg x 2 < dg y 2 ∨ (dg x 2 = dg y 2 ∧ (dg x 1 < dg y 1 ∨ (dg x 1 = dg y 1 ∧ dg x 0 < dg y 0)))))) := by
    generalize dg x 0 = x0 at *
    generalize dg x 1 = x1 at *
    generalize dg x 2 = x2 at *
    generalize dg x 3 = x3 at *
    generalize dg y 0 = y0 at *
    generalize dg y 1 = y1 at *
    generalize dg y 2 = y2 at *
    generalize dg y 3 = y3 at *
    subst e3 f3
    have a1 := lt_digit (u := x3) (v := y3) l2 m2
    have a2 := lt_digit (u := u) (v := s) l0 m0
    have a3 := lt_digit (u := x2 + 4294967296 * x3) (v := y2 + 4294967296 * y3) l1 m1
    rw [← e1, ← f1] at a2
    rw [← e2, ← f2] at a3
    rw [a2, a3, a1]
    omega
  refine ⟨fun h => ?_, fun h h' => ?_, fun h h' h2 => ?_, fun h h' h2 h3 => ?_, fun h h' h2 h3 => ?_⟩
  all_goals first | (rw [decide_eq_false_iff_not, k]; omega) | (rw [decide_eq_decide, k]; omega)
set_option maxHeartbeats 4000000 in
theorem refBelow_calls (x y : Nat) (w : World) (hx : sm4 x) (hy : sm4 y) :
    Calls Tryd.prog 61 #[Dv x, Dv y] w fun e w' => e = .returned (.bool (decide (x < y))) ∧ Below w.heap.size w w' := by
  have PL := Lib.hid (below_plain hx hy)
  clear hx hy
  generalize decide (x < y) = res at *
  unfold Dv
  generalize dg x 0 = x0 at *
  generalize dg x 1 = x1 at *
  generalize dg x 2 = x2 at *
  generalize dg x 3 = x3 at *
  generalize dg y 0 = y0 at *
  generalize dg y 1 = y1 at *
  generalize dg y 2 = y2 at *
  generalize dg y 3 = y3 at *
  go_enter Tryd.func61, Tryd.ntmps61
  go_wp2_with fail
  have XB : Hid (((w.alloc (.cells #[.int .u64 (x0 : Int), .int .u64 (x1 : Int), .int .u64 (x2 : Int), .int .u64 (x3 : Int)] 82)).alloc (.cells #[.int .u64 (y0 : Int), .int .u64 (y1 : Int), .int .u64 (y2 : Int), .int .u64 (y3 : Int)] 82)).heap[w.heap.size]? = some (.cells #[.int .u64 (x0 : Int), .int .u64 (x1 : Int), .int .u64 (x2 : Int), .int .u64 (x3 : Int)] 82)) := Lib.hid (blk1 w _ _)
  have YB : Hid (((w.alloc (.cells #[.int .u64 (x0 : Int), .int .u64 (x1 : Int), .int .u64 (x2 : Int), .int .u64 (x3 : Int)] 82)).alloc (.cells #[.int .u64 (y0 : Int), .int .u64 (y1 : Int), .int .u64 (y2 : Int), .int .u64 (y3 : Int)] 82)).heap[w.heap.size + 1]? = some (.cells #[.int .u64 (y0 : Int), .int .u64 (y1 : Int), .int .u64 (y2 : Int), .int .u64 (y3 : Int)] 82)) := Lib.hid (blk2 w _ _)
  have NB : Hid (Below w.heap.size w ((w.alloc (.cells #[.int .u64 (x0 : Int), .int .u64 (x1 : Int), .int .u64 (x2 : Int), .int .u64 (x3 : Int)] 82)).alloc (.cells #[.int .u64 (y0 : Int), .int .u64 (y1 : Int), .int .u64 (y2 : Int), .int .u64 (y3 : Int)] 82))) := Lib.hid (Bal (Bal (Below.refl _ _) _) _)
  generalize (w.alloc (.cells #[.int .u64 (x0 : Int), .int .u64 (x1 : Int), .int .u64 (x2 : Int), .int .u64 (x3 : Int)] 82)).alloc (.cells #[.int .u64 (y0 : Int), .int .u64 (y1 : Int), .int .u64 (y2 : Int), .int .u64 (y3 : Int)] 82) = W at *
  go_loopw [5] (fun i wr => ∃ n, wr = W.drewN n ∧ ((i = .int .i64 3) ∨ (i = .int .i64 2 ∧ Hid (x3 = y3)) ∨ (i = .int .i64 1 ∧ Hid (x3 = y3) ∧ Hid (x2 = y2)) ∨ (i = .int .i64 0 ∧ Hid (x3 = y3) ∧ Hid (x2 = y2) ∧ Hid (x1 = y1)) ∨ (i = .int .i64 (-1) ∧ Hid (x3 = y3) ∧ Hid (x2 = y2) ∧ Hid (x1 = y1) ∧ Hid (x0 = y0)))) (fun i _ => (intOf i + 1).toNat)
  case atStart => exact ⟨0, rfl, .inl rfl⟩
  case round =>
    obtain ⟨n, rfl, (rfl | ⟨rfl, E0⟩ | ⟨rfl, E0, E1⟩ | ⟨rfl, E0, E1, E2⟩ | ⟨rfl, E0, E1, E2, E3⟩)⟩ := hrel
    · have ox := blk_cell XB.out 3 _ rfl
      have oy := blk_cell YB.out 3 _ rfl
      by_cases hd : x3 = y3
      · have hq : ((x3 : Int) != (y3 : Int)) = false := by rw [hd]; simp
        have E0 := Lib.hid hd
        clear hd
        go_wp2_with fail
        go_quiet (fail)
        go_wp2_with fail
        exact ⟨⟨n + nq, rfl, .inr (.inl ⟨rfl, E0⟩)⟩, by simp [intOf]⟩
      · have hq : ((x3 : Int) != (y3 : Int)) = true := by rw [bne_iff_ne]; omega
        have FE := Lib.hid (PL.out.1  hd)
        clear hd
        go_wp2_with fail
        go_quiet (fail)
        go_wp2_with fail
        go_quiet (fail)
        go_wp2_with fail
        go_ret
        exact ⟨ret_bool (by rw [FE.out]), by first | exact below_drewN NB.out _ | exact below_drewN (below_drewN NB.out _) _ | exact below_drewN (below_drewN (below_drewN NB.out _) _) _⟩
    · have ox := blk_cell XB.out 2 _ rfl
      have oy := blk_cell YB.out 2 _ rfl
      by_cases hd : x2 = y2
      · have hq : ((x2 : Int) != (y2 : Int)) = false := by rw [hd]; simp
        have E1 := Lib.hid hd
        clear hd
        go_wp2_with fail
        go_quiet (fail)
        go_wp2_with fail
        exact ⟨⟨n + nq, rfl, .inr (.inr (.inl ⟨rfl, E0, E1⟩))⟩, by simp [intOf]⟩
      · have hq : ((x2 : Int) != (y2 : Int)) = true := by rw [bne_iff_ne]; omega
        have FE := Lib.hid (PL.out.2.1 E0.out hd)
        clear hd
        go_wp2_with fail
        go_quiet (fail)
        go_wp2_with fail
        go_quiet (fail)
        go_wp2_with fail
        go_ret
        exact ⟨ret_bool (by rw [FE.out]), by first | exact below_drewN NB.out _ | exact below_drewN (below_drewN NB.out _) _ | exact below_drewN (below_drewN (below_drewN NB.out _) _) _⟩
    · have ox := blk_cell XB.out 1 _ rfl
      have oy := blk_cell YB.out 1 _ rfl
      by_cases hd : x1 = y1
      · have hq : ((x1 : Int) != (y1 : Int)) = false := by rw [hd]; simp
        have E2 := Lib.hid hd
        clear hd
        go_wp2_with fail
        go_quiet (fail)
        go_wp2_with fail
        exact ⟨⟨n + nq, rfl, .inr (.inr (.inr (.inl ⟨rfl, E0, E1, E2⟩)))⟩, by simp [intOf]⟩
      · have hq : ((x1 : Int) != (y1 : Int)) = true := by rw [bne_iff_ne]; omega
        have FE := Lib.hid (PL.out.2.2.1 E0.out E1.out hd)
        clear hd
        go_wp2_with fail
        go_quiet (fail)
        go_wp2_with fail
        go_quiet (fail)
        go_wp2_with fail
        go_ret
        exact ⟨ret_bool (by rw [FE.out]), by first | exact below_drewN NB.out _ | exact below_drewN (below_drewN NB.out _) _ | exact below_drewN (below_drewN (below_drewN NB.out _) _) _⟩
    · have ox := blk_cell XB.out 0 _ rfl
      have oy := blk_cell YB.out 0 _ rfl
      by_cases hd : x0 = y0
      · have hq : ((x0 : Int) != (y0 : Int)) = false := by rw [hd]; simp
        have E3 := Lib.hid hd
        clear hd
        go_wp2_with fail
        go_quiet (fail)
        go_wp2_with fail
        exact ⟨⟨n + nq, rfl, .inr (.inr (.inr (.inr (⟨rfl, E0, E1, E2, E3⟩))))⟩, by simp [intOf]⟩
      · have hq : ((x0 : Int) != (y0 : Int)) = true := by rw [bne_iff_ne]; omega
        have FE := Lib.hid (PL.out.2.2.2.1 E0.out E1.out E2.out hd)
        clear hd
        go_wp2_with fail
        go_quiet (fail)
        go_wp2_with fail
        go_quiet (fail)
        go_wp2_with fail
        go_ret
        exact ⟨ret_bool (by rw [FE.out]), by first | exact below_drewN NB.out _ | exact below_drewN (below_drewN NB.out _) _ | exact below_drewN (below_drewN (below_drewN NB.out _) _) _⟩
    · have FE := Lib.hid (PL.out.2.2.2.2 E0.out E1.out E2.out E3.out)
      go_wp2_with fail
      go_ret
      exact ⟨ret_bool FE.out.symm, below_drewN NB.out _⟩
theorem sm4_prod64 {a b : Nat} (ha : a ≤ 9223372036854775808) (hb : b ≤ 9223372036854775808) : sm4 (a * b) := by
  have h := Nat.mul_le_mul ha hb
  unfold sm4
  generalize a * b = p at *
  omega
abbrev set4 (w : World) (g : Nat) (a b c d : Value) : World := (((w.setCell ⟨g, 0, none⟩ a).setCell ⟨g, 1, none⟩ b).setCell ⟨g, 2, none⟩ c).setCell ⟨g, 3, none⟩ d
theorem blk_put4 {w : World} {g : Nat} {x y z u : Value} {t : TypeId} (h : w.heap[g]? = some (.cells #[x, y, z, u] t)) (a b c d : Value) : (set4 w g a b c d).heap[g]? = some (.cells #[a, b, c, d] t) := blk_set (blk_set (blk_set (blk_set h 0 a) 1 b) 2 c) 3 d
theorem blk_put4_other {w : World} {g k : Nat} {o : Obj} (h : w.heap[k]? = some o) (hne : g ≠ k) (a b c d : Value) : (set4 w g a b c d).heap[k]? = some o := blk_set_other (blk_set_other (blk_set_other (blk_set_other h hne 0 a) hne 1 b) hne 2 c) hne 3 d
theorem sz4 (w : World) (g : Nat) (a b c d : Value) : (set4 w g a b c d).heap.size = w.heap.size := by simp [World.setCell]
theorem blk_dr {w : World} {b : Nat} {o : Obj} (h : w.heap[b]? = some o) : w.drew.heap[b]? = some o := h
structure P2 (w W : World) (an ad bn bd : Int) : Prop where
  a : W.heap[w.heap.size]? = some (.cells #[.int .i64 an, .int .i64 ad] 23)
  b : W.heap[w.heap.size + 1]? = some (.cells #[.int .i64 bn, .int .i64 bd] 23)
  n : Below w.heap.size w W
theorem P2.next {w W W' : World} {an ad bn bd : Int} (h : P2 w W an ad bn bd) (hb : Below W.heap.size W W') : P2 w W' an ad bn bd := ⟨blk_next hb h.a, blk_next hb h.b, Bgo h.n hb⟩
theorem P2.init (w : World) (an ad bn bd : Int) : P2 w ((w.alloc (.cells #[.int .i64 an, .int .i64 ad] 23)).alloc (.cells #[.int .i64 bn, .int .i64 bd] 23)) an ad bn bd := ⟨blk1 w _ _, blk2 w _ _, Bal (Bal (Below.refl _ _) _) _⟩
end Go.Proofs.YtpeoecgehdicmaaDoor
