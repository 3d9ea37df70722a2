/- Several texts in one. -/
import Derived.StillTail
import Derived.Test.YtbbnkclajpaghaaMA01
namespace Go.Proofs.Ytbbnkclajpaghaa
open Go.ChangeShapes Go.WideShapes Go.ChangeAt Go.RowKit
set_option linter.unusedVariables false
set_option maxRecDepth 100000
attribute [local go_sem ↓] Go.wp_at_zero Go.wp_at_succ
theorem lt_digit {a b u v : Nat} (ha : a < 4294967296) (hb : b < 4294967296) : (a + 4294967296 * u < b + 4294967296 * v) ↔ (u < v ∨ (u = v ∧ a < b)) := by omega
theorem dg_split {x : Nat} (h : sm4 x) : ∃ u v : Nat, x = dg x 0 + 4294967296 * u ∧ u = dg x 1 + 4294967296 * v ∧ v = dg x 2 + 4294967296 * dg x 3 := by
 refine ⟨x / 4294967296, x / 4294967296 / 4294967296, ?_, ?_, ?_⟩
 ·show x = x % 4294967296 + _
  omega
 ·show x / 4294967296 = x / 4294967296 % 4294967296 + _
  omega
 ·show x / 4294967296 / 4294967296 = x / 4294967296 / 4294967296 % 4294967296 + 4294967296 * (x / 4294967296 / 4294967296 / 4294967296 % 4294967296)
  unfold sm4 at h
  omega
theorem below_plain {x y : Nat} (hx : sm4 x) (hy : sm4 y) :
  (dg x 3 ≠ dg y 3 → decide (x < y) = decide (dg x 3 < dg y 3)) ∧ (dg x 3 = dg y 3 → dg x 2 ≠ dg y 2 → decide (x < y) = decide (dg x 2 < dg y 2)) ∧ (dg x 3 = dg y 3 → dg x 2 = dg y 2 → dg x 1 ≠ dg y 1 → decide (x < y) = decide (dg x 1 < dg y 1)) ∧
  (dg x 3 = dg y 3 → dg x 2 = dg y 2 → dg x 1 = dg y 1 → dg x 0 ≠ dg y 0 → decide (x < y) = decide (dg x 0 < dg y 0)) ∧ (dg x 3 = dg y 3 → dg x 2 = dg y 2 → dg x 1 = dg y 1 → dg x 0 = dg y 0 → decide (x < y) = false) := by
 obtain ⟨u, v, e1, e2, e3⟩ := dg_split hx
 obtain ⟨s, t, f1, f2, f3⟩ := dg_split hy
 have l0 := dg_lt x 0
 have l1 := dg_lt x 1
 have l2 := dg_lt x 2
 have m0 := dg_lt y 0
 have m1 := dg_lt y 1
 have m2 := dg_lt y 2
 have k : x < y ↔ (dg x 3 < dg y 3 ∨ (dg x 3 = dg y 3 ∧ (dg x 2 < dg y 2 ∨ (dg x 2 = dg y 2 ∧ (dg x 1 < dg y 1 ∨ (dg x 1 = dg y 1 ∧ dg x 0 < dg y 0)))))) := by
  generalize dg x 0 = x0 at *
  generalize dg x 1 = x1 at *
  generalize dg x 2 = x2 at *
  generalize dg x 3 = x3 at *
  generalize dg y 0 = y0 at *
  generalize dg y 1 = y1 at *
  generalize dg y 2 = y2 at *
  generalize dg y 3 = y3 at *
  subst e3 f3
  have a1 := lt_digit (u := x3) (v := y3) l2 m2
  have a2 := lt_digit (u := u) (v := s) l0 m0
  have a3 := lt_digit (u := x2 + 4294967296 * x3) (v := y2 + 4294967296 * y3) l1 m1
  rw [← e1, ← f1] at a2
  rw [← e2, ← f2] at a3
  rw [a2, a3, a1]
  omega
 refine ⟨fun h => ?_, fun h h' => ?_, fun h h' h2 => ?_, fun h h' h2 h3 => ?_, fun h h' h2 h3 => ?_⟩
 all_goals first | (rw [decide_eq_false_iff_not, k]; omega) | (rw [decide_eq_decide, k]; omega)
set_option maxHeartbeats 4000000 in
theorem refBelow_calls (x y : Nat) (w : World) (hx : sm4 x) (hy : sm4 y) :
  Calls Try.prog 76 #[Dv x, Dv y] w fun e w' => e = .returned (.bool (decide (x < y))) ∧ Below w.heap.size w w' := by
 have PL := Lib.hid (below_plain hx hy)
 clear hx hy
 generalize decide (x < y) = res at *
 unfold Dv
 generalize dg x 0 = x0 at *
 generalize dg x 1 = x1 at *
 generalize dg x 2 = x2 at *
 generalize dg x 3 = x3 at *
 generalize dg y 0 = y0 at *
 generalize dg y 1 = y1 at *
 generalize dg y 2 = y2 at *
 generalize dg y 3 = y3 at *
 go_enter Try.func76, Try.ntmps76
 go_wp2_with fail
 have XB : Hid (((w.alloc (.cells #[.int .u64 (x0 : Int), .int .u64 (x1 : Int), .int .u64 (x2 : Int), .int .u64 (x3 : Int)] 110)).alloc (.cells #[.int .u64 (y0 : Int), .int .u64 (y1 : Int), .int .u64 (y2 : Int), .int .u64 (y3 : Int)] 110)).heap[w.heap.size]? = some (.cells #[.int .u64 (x0 : Int), .int .u64 (x1 : Int), .int .u64 (x2 : Int), .int .u64 (x3 : Int)] 110)) := Lib.hid (blk1 w _ _)
 have YB : Hid (((w.alloc (.cells #[.int .u64 (x0 : Int), .int .u64 (x1 : Int), .int .u64 (x2 : Int), .int .u64 (x3 : Int)] 110)).alloc (.cells #[.int .u64 (y0 : Int), .int .u64 (y1 : Int), .int .u64 (y2 : Int), .int .u64 (y3 : Int)] 110)).heap[w.heap.size + 1]? = some (.cells #[.int .u64 (y0 : Int), .int .u64 (y1 : Int), .int .u64 (y2 : Int), .int .u64 (y3 : Int)] 110)) := Lib.hid (blk2 w _ _)
 have NB : Hid (Below w.heap.size w ((w.alloc (.cells #[.int .u64 (x0 : Int), .int .u64 (x1 : Int), .int .u64 (x2 : Int), .int .u64 (x3 : Int)] 110)).alloc (.cells #[.int .u64 (y0 : Int), .int .u64 (y1 : Int), .int .u64 (y2 : Int), .int .u64 (y3 : Int)] 110))) := Lib.hid (Bal (Bal (Below.refl _ _) _) _)
 generalize (w.alloc (.cells #[.int .u64 (x0 : Int), .int .u64 (x1 : Int), .int .u64 (x2 : Int), .int .u64 (x3 : Int)] 110)).alloc (.cells #[.int .u64 (y0 : Int), .int .u64 (y1 : Int), .int .u64 (y2 : Int), .int .u64 (y3 : Int)] 110) = W at *
 go_loopw [5] (fun i wr => ∃ n, wr = W.drewN n ∧ ((i = .int .i64 3) ∨ (i = .int .i64 2 ∧ Hid (x3 = y3)) ∨ (i = .int .i64 1 ∧ Hid (x3 = y3) ∧ Hid (x2 = y2)) ∨ (i = .int .i64 0 ∧ Hid (x3 = y3) ∧ Hid (x2 = y2) ∧ Hid (x1 = y1)) ∨ (i = .int .i64 (-1) ∧ Hid (x3 = y3) ∧ Hid (x2 = y2) ∧ Hid (x1 = y1) ∧ Hid (x0 = y0)))) (fun i _ => (intOf i + 1).toNat)
 case atStart => exact ⟨0, rfl, .inl rfl⟩
 case round =>
  obtain ⟨n, rfl, (rfl | ⟨rfl, E0⟩ | ⟨rfl, E0, E1⟩ | ⟨rfl, E0, E1, E2⟩ | ⟨rfl, E0, E1, E2, E3⟩)⟩ := hrel
  ·have ox := blk_cell XB.out 3 _ rfl
   have oy := blk_cell YB.out 3 _ rfl
   by_cases hd : x3 = y3
   ·have hq : ((x3 : Int) != (y3 : Int)) = false := by rw [hd]; simp
    have E0 := Lib.hid hd
    clear hd
    go_wp2_with fail
    go_quiet (fail)
    go_wp2_with fail
    exact ⟨⟨n + nq, rfl, .inr (.inl ⟨rfl, E0⟩)⟩, by simp [intOf]⟩
   ·have hq : ((x3 : Int) != (y3 : Int)) = true := by rw [bne_iff_ne]; omega
    have FE := Lib.hid (PL.out.1  hd)
    clear hd
    go_wp2_with fail
    go_quiet (fail)
    go_wp2_with fail
    go_quiet (fail)
    go_wp2_with fail
    go_ret
    exact ⟨ret_bool (by rw [FE.out]), by first | exact below_drewN NB.out _ | exact below_drewN (below_drewN NB.out _) _ | exact below_drewN (below_drewN (below_drewN NB.out _) _) _⟩
  ·have ox := blk_cell XB.out 2 _ rfl
   have oy := blk_cell YB.out 2 _ rfl
   by_cases hd : x2 = y2
   ·have hq : ((x2 : Int) != (y2 : Int)) = false := by rw [hd]; simp
    have E1 := Lib.hid hd
    clear hd
    go_wp2_with fail
    go_quiet (fail)
    go_wp2_with fail
    exact ⟨⟨n + nq, rfl, .inr (.inr (.inl ⟨rfl, E0, E1⟩))⟩, by simp [intOf]⟩
   ·have hq : ((x2 : Int) != (y2 : Int)) = true := by rw [bne_iff_ne]; omega
    have FE := Lib.hid (PL.out.2.1 E0.out hd)
    clear hd
    go_wp2_with fail
    go_quiet (fail)
    go_wp2_with fail
    go_quiet (fail)
    go_wp2_with fail
    go_ret
    exact ⟨ret_bool (by rw [FE.out]), by first | exact below_drewN NB.out _ | exact below_drewN (below_drewN NB.out _) _ | exact below_drewN (below_drewN (below_drewN NB.out _) _) _⟩
  ·have ox := blk_cell XB.out 1 _ rfl
   have oy := blk_cell YB.out 1 _ rfl
   by_cases hd : x1 = y1
   ·have hq : ((x1 : Int) != (y1 : Int)) = false := by rw [hd]; simp
    have E2 := Lib.hid hd
    clear hd
    go_wp2_with fail
    go_quiet (fail)
    go_wp2_with fail
    exact ⟨⟨n + nq, rfl, .inr (.inr (.inr (.inl ⟨rfl, E0, E1, E2⟩)))⟩, by simp [intOf]⟩
   ·have hq : ((x1 : Int) != (y1 : Int)) = true := by rw [bne_iff_ne]; omega
    have FE := Lib.hid (PL.out.2.2.1 E0.out E1.out hd)
    clear hd
    go_wp2_with fail
    go_quiet (fail)
    go_wp2_with fail
    go_quiet (fail)
    go_wp2_with fail
    go_ret
    exact ⟨ret_bool (by rw [FE.out]), by first | exact below_drewN NB.out _ | exact below_drewN (below_drewN NB.out _) _ | exact below_drewN (below_drewN (below_drewN NB.out _) _) _⟩
  ·have ox := blk_cell XB.out 0 _ rfl
   have oy := blk_cell YB.out 0 _ rfl
   by_cases hd : x0 = y0
   ·have hq : ((x0 : Int) != (y0 : Int)) = false := by rw [hd]; simp
    have E3 := Lib.hid hd
    clear hd
    go_wp2_with fail
    go_quiet (fail)
    go_wp2_with fail
    exact ⟨⟨n + nq, rfl, .inr (.inr (.inr (.inr (⟨rfl, E0, E1, E2, E3⟩))))⟩, by simp [intOf]⟩
   ·have hq : ((x0 : Int) != (y0 : Int)) = true := by rw [bne_iff_ne]; omega
    have FE := Lib.hid (PL.out.2.2.2.1 E0.out E1.out E2.out hd)
    clear hd
    go_wp2_with fail
    go_quiet (fail)
    go_wp2_with fail
    go_quiet (fail)
    go_wp2_with fail
    go_ret
    exact ⟨ret_bool (by rw [FE.out]), by first | exact below_drewN NB.out _ | exact below_drewN (below_drewN NB.out _) _ | exact below_drewN (below_drewN (below_drewN NB.out _) _) _⟩
  ·have FE := Lib.hid (PL.out.2.2.2.2 E0.out E1.out E2.out E3.out)
   go_wp2_with fail
   go_ret
   exact ⟨ret_bool FE.out.symm, below_drewN NB.out _⟩
abbrev set4 (w : World) (g : Nat) (a b c d : Value) : World := (((w.setCell ⟨g, 0, none⟩ a).setCell ⟨g, 1, none⟩ b).setCell ⟨g, 2, none⟩ c).setCell ⟨g, 3, none⟩ d
theorem blk_put4 {w : World} {g : Nat} {x y z u : Value} {t : TypeId} (h : w.heap[g]? = some (.cells #[x, y, z, u] t)) (a b c d : Value) : (set4 w g a b c d).heap[g]? = some (.cells #[a, b, c, d] t) := blk_set (blk_set (blk_set (blk_set h 0 a) 1 b) 2 c) 3 d
theorem blk_put4_other {w : World} {g k : Nat} {o : Obj} (h : w.heap[k]? = some o) (hne : g ≠ k) (a b c d : Value) : (set4 w g a b c d).heap[k]? = some o := blk_set_other (blk_set_other (blk_set_other (blk_set_other h hne 0 a) hne 1 b) hne 2 c) hne 3 d
theorem sz4 (w : World) (g : Nat) (a b c d : Value) : (set4 w g a b c d).heap.size = w.heap.size := by simp [World.setCell]
theorem blk_dr {w : World} {b : Nat} {o : Obj} (h : w.heap[b]? = some o) : w.drew.heap[b]? = some o := h
structure P2 (w W : World) (an ad bn bd : Int) : Prop where
 a : W.heap[w.heap.size]? = some (.cells #[.int .i64 an, .int .i64 ad] 80)
 b : W.heap[w.heap.size + 1]? = some (.cells #[.int .i64 bn, .int .i64 bd] 80)
 n : Below w.heap.size w W
theorem P2.next {w W W' : World} {an ad bn bd : Int} (h : P2 w W an ad bn bd) (hb : Below W.heap.size W W') : P2 w W' an ad bn bd := ⟨blk_next hb h.a, blk_next hb h.b, Bgo h.n hb⟩
theorem P2.init (w : World) (an ad bn bd : Int) : P2 w ((w.alloc (.cells #[.int .i64 an, .int .i64 ad] 80)).alloc (.cells #[.int .i64 bn, .int .i64 bd] 80)) an ad bn bd := ⟨blk1 w _ _, blk2 w _ _, Bal (Bal (Below.refl _ _) _) _⟩
end Go.Proofs.Ytbbnkclajpaghaa
namespace Go.Proofs.Ytbbnkclajpaghaa
open Go.ChangeShapes Go.WideShapes Go.ChangeAt Go.RowKit
set_option linter.unusedVariables false
set_option maxRecDepth 100000
attribute [local go_sem ↓] Go.wp_at_zero Go.wp_at_succ
set_option maxRecDepth 100000 in
set_option maxHeartbeats 8000000 in
theorem refSum_calls (x y : Nat) (w : World) (hx : sm4 x) (hy : sm4 y) (hxy : sm4 (x + y)) :
  Calls Try.prog 75 #[Dv x, Dv y] w fun e w' => e = .returned (Dv (x + y)) ∧ Below w.heap.size w w' := by
 have FX : Hid (∀ d0 d1 d2 d3 : Nat, d0 < 4294967296 → d1 < 4294967296 → d2 < 4294967296 → d3 < 4294967296 → x + y = bigN d0 d1 d2 d3 → Bv d0 d1 d2 d3 = Dv (x + y)) := Lib.hid (fun d0 d1 d2 d3 h0 h1 h2 h3 h => dv_of h0 h1 h2 h3 h)
 unfold sm4 at hxy
 obtain ⟨u, v, e1, e2, e3⟩ := dg_split hx
 obtain ⟨s, t, f1, f2, f3⟩ := dg_split hy
 have l0 := dg_lt x 0
 have l1 := dg_lt x 1
 have l2 := dg_lt x 2
 have l3 := dg_lt x 3
 have m0 := dg_lt y 0
 have m1 := dg_lt y 1
 have m2 := dg_lt y 2
 have m3 := dg_lt y 3
 generalize hres : Dv (x + y) = res at *
 unfold Dv
 generalize dg x 0 = a0 at *
 generalize dg x 1 = a1 at *
 generalize dg x 2 = a2 at *
 generalize dg x 3 = a3 at *
 generalize dg y 0 = b0 at *
 generalize dg y 1 = b1 at *
 generalize dg y 2 = b2 at *
 generalize dg y 3 = b3 at *
 obtain ⟨t0, ht0⟩ : ∃ z, z = a0 + b0 := ⟨_, rfl⟩
 obtain ⟨d0, hd0⟩ : ∃ z, z = t0 % 4294967296 := ⟨_, rfl⟩
 obtain ⟨k0, hk0⟩ : ∃ z, z = t0 / 4294967296 := ⟨_, rfl⟩
 obtain ⟨p1, hp1⟩ : ∃ z, z = a1 + b1 := ⟨_, rfl⟩
 obtain ⟨t1, ht1⟩ : ∃ z, z = k0 + p1 := ⟨_, rfl⟩
 obtain ⟨d1, hd1⟩ : ∃ z, z = t1 % 4294967296 := ⟨_, rfl⟩
 obtain ⟨k1, hk1⟩ : ∃ z, z = t1 / 4294967296 := ⟨_, rfl⟩
 obtain ⟨p2, hp2⟩ : ∃ z, z = a2 + b2 := ⟨_, rfl⟩
 obtain ⟨t2, ht2⟩ : ∃ z, z = k1 + p2 := ⟨_, rfl⟩
 obtain ⟨d2, hd2⟩ : ∃ z, z = t2 % 4294967296 := ⟨_, rfl⟩
 obtain ⟨k2, hk2⟩ : ∃ z, z = t2 / 4294967296 := ⟨_, rfl⟩
 obtain ⟨p3, hp3⟩ : ∃ z, z = a3 + b3 := ⟨_, rfl⟩
 obtain ⟨t3, ht3⟩ : ∃ z, z = k2 + p3 := ⟨_, rfl⟩
 obtain ⟨d3, hd3⟩ : ∃ z, z = t3 % 4294967296 := ⟨_, rfl⟩
 obtain ⟨k3, hk3⟩ : ∃ z, z = t3 / 4294967296 := ⟨_, rfl⟩
 have s2 : v + t + k1 = d2 + 4294967296 * t3 := by omega
 have s1 : u + s + k0 = d1 + 4294967296 * (d2 + 4294967296 * t3) := by omega
 have s0 : x + y = d0 + 4294967296 * (d1 + 4294967296 * (d2 + 4294967296 * t3)) := by omega
 have q0 : (x + y) / 4294967296 = d1 + 4294967296 * (d2 + 4294967296 * t3) := by omega
 have q1 : (d1 + 4294967296 * (d2 + 4294967296 * t3)) / 4294967296 = d2 + 4294967296 * t3 := by omega
 have q2 : (d2 + 4294967296 * t3) / 4294967296 = t3 := by omega
 rw [q0, q1, q2] at hxy
 have e33 : d3 = t3 := by omega
 have FIN : Hid (Bv d0 d1 d2 d3 = res) := Lib.hid (FX.out d0 d1 d2 d3 (by omega) (by omega) (by omega) (by omega) (by unfold bigN; rw [e33]; exact s0))
 have r0 : bits .and .u64 ((a0 : Int) + (b0 : Int)) 4294967295 = (d0 : Int) := by rw [show ((a0 : Int) + (b0 : Int)) = (t0 : Int) by omega, hd0]; exact and32 t0 (by omega)
 have r0' : ((a0 : Int) + (b0 : Int)) / 4294967296 = (k0 : Int) := by omega
 have n1 : (a1 : Int) + (b1 : Int) = (p1 : Int) := by omega
 have w1 : (k0 : Int) + (p1 : Int) = (t1 : Int) := by omega
 have r1 : bits .and .u64 (t1 : Int) 4294967295 = (d1 : Int) := by rw [hd1]; exact and32 t1 (by omega)
 have r1' : (t1 : Int) / 4294967296 = (k1 : Int) := by omega
 have c1 : t1 < 18446744073709551616 := by omega
 have cp1 : p1 < 18446744073709551616 := by omega
 have n2 : (a2 : Int) + (b2 : Int) = (p2 : Int) := by omega
 have w2 : (k1 : Int) + (p2 : Int) = (t2 : Int) := by omega
 have r2 : bits .and .u64 (t2 : Int) 4294967295 = (d2 : Int) := by rw [hd2]; exact and32 t2 (by omega)
 have r2' : (t2 : Int) / 4294967296 = (k2 : Int) := by omega
 have c2 : t2 < 18446744073709551616 := by omega
 have cp2 : p2 < 18446744073709551616 := by omega
 have n3 : (a3 : Int) + (b3 : Int) = (p3 : Int) := by omega
 have w3 : (k2 : Int) + (p3 : Int) = (t3 : Int) := by omega
 have r3 : bits .and .u64 (t3 : Int) 4294967295 = (d3 : Int) := by rw [hd3]; exact and32 t3 (by omega)
 have r3' : (t3 : Int) / 4294967296 = (k3 : Int) := by omega
 have c3 : t3 < 18446744073709551616 := by omega
 have cp3 : p3 < 18446744073709551616 := by omega
 have n0 : (a0 : Int) + (b0 : Int) = (t0 : Int) := by omega
 rw [n0] at r0 r0'
 have c0 : t0 < 18446744073709551616 := by omega
 clear e1 e2 e3 f1 f2 f3 s0 s1 s2 q0 q1 q2 hxy e33 FX ht0 hd0 hk0 hp1 ht1 hd1 hk1 hp2 ht2 hd2 hk2 hp3 ht3 hd3 hk3 hres
 go_enter Try.func75, Try.ntmps75
 go_wp2_with fail
 have XB : Hid ((((w.alloc (.cells #[.int .u64 (a0 : Int), .int .u64 (a1 : Int), .int .u64 (a2 : Int), .int .u64 (a3 : Int)] 110)).alloc (.cells #[.int .u64 (b0 : Int), .int .u64 (b1 : Int), .int .u64 (b2 : Int), .int .u64 (b3 : Int)] 110)).alloc (.cells #[.int .u64 0, .int .u64 0, .int .u64 0, .int .u64 0] 110)).heap[w.heap.size]? = some (.cells #[.int .u64 (a0 : Int), .int .u64 (a1 : Int), .int .u64 (a2 : Int), .int .u64 (a3 : Int)] 110)) := Lib.hid (blk_alloc (blk_alloc (blk_new w _) _) _)
 have YB := Lib.hid (blk3b w (.cells #[.int .u64 (a0 : Int), .int .u64 (a1 : Int), .int .u64 (a2 : Int), .int .u64 (a3 : Int)] 110) (.cells #[.int .u64 (b0 : Int), .int .u64 (b1 : Int), .int .u64 (b2 : Int), .int .u64 (b3 : Int)] 110) (.cells #[.int .u64 0, .int .u64 0, .int .u64 0, .int .u64 0] 110))
 have ZB := Lib.hid (blk3c w (.cells #[.int .u64 (a0 : Int), .int .u64 (a1 : Int), .int .u64 (a2 : Int), .int .u64 (a3 : Int)] 110) (.cells #[.int .u64 (b0 : Int), .int .u64 (b1 : Int), .int .u64 (b2 : Int), .int .u64 (b3 : Int)] 110) (.cells #[.int .u64 0, .int .u64 0, .int .u64 0, .int .u64 0] 110))
 have NB : Hid (Below w.heap.size w (((w.alloc (.cells #[.int .u64 (a0 : Int), .int .u64 (a1 : Int), .int .u64 (a2 : Int), .int .u64 (a3 : Int)] 110)).alloc (.cells #[.int .u64 (b0 : Int), .int .u64 (b1 : Int), .int .u64 (b2 : Int), .int .u64 (b3 : Int)] 110)).alloc (.cells #[.int .u64 0, .int .u64 0, .int .u64 0, .int .u64 0] 110))) := Lib.hid (Bal (Bal (Bal (Below.refl _ _) _) _) _)
 generalize ((w.alloc (.cells #[.int .u64 (a0 : Int), .int .u64 (a1 : Int), .int .u64 (a2 : Int), .int .u64 (a3 : Int)] 110)).alloc (.cells #[.int .u64 (b0 : Int), .int .u64 (b1 : Int), .int .u64 (b2 : Int), .int .u64 (b3 : Int)] 110)).alloc (.cells #[.int .u64 0, .int .u64 0, .int .u64 0, .int .u64 0] 110) = W at *
 go_loopw [5, 6] (fun c i wr => Hid (Below w.heap.size w wr) ∧ Hid (wr.heap[w.heap.size + 1]? = some (.cells #[.int .u64 (b0 : Int), .int .u64 (b1 : Int), .int .u64 (b2 : Int), .int .u64 (b3 : Int)] 110)) ∧ Hid (wr.heap[w.heap.size + 1 + 1]? = some (.cells #[.int .u64 0, .int .u64 0, .int .u64 0, .int .u64 0] 110)) ∧ ((i = .int .i64 0 ∧ c = .int .u64 0 ∧ Hid (wr.heap[w.heap.size]? = some (.cells #[.int .u64 (a0 : Int), .int .u64 (a1 : Int), .int .u64 (a2 : Int), .int .u64 (a3 : Int)] 110))) ∨ (i = .int .i64 1 ∧ c = .int .u64 (k0 : Int) ∧ Hid (wr.heap[w.heap.size]? = some (.cells #[.int .u64 (d0 : Int), .int .u64 (a1 : Int), .int .u64 (a2 : Int), .int .u64 (a3 : Int)] 110))) ∨ (i = .int .i64 2 ∧ c = .int .u64 (k1 : Int) ∧ Hid (wr.heap[w.heap.size]? = some (.cells #[.int .u64 (d0 : Int), .int .u64 (d1 : Int), .int .u64 (a2 : Int), .int .u64 (a3 : Int)] 110))) ∨ (i = .int .i64 3 ∧ c = .int .u64 (k2 : Int) ∧ Hid (wr.heap[w.heap.size]? = some (.cells #[.int .u64 (d0 : Int), .int .u64 (d1 : Int), .int .u64 (d2 : Int), .int .u64 (a3 : Int)] 110))) ∨ (i = .int .i64 4 ∧ c = .int .u64 (k3 : Int) ∧ Hid (wr.heap[w.heap.size]? = some (.cells #[.int .u64 (d0 : Int), .int .u64 (d1 : Int), .int .u64 (d2 : Int), .int .u64 (d3 : Int)] 110))))) (fun _ i _ => 4 - (intOf i).toNat)
 case atStart => exact ⟨NB, YB, ZB, .inl ⟨rfl, rfl, XB⟩⟩
 case round =>
  clear NB YB ZB XB
  obtain ⟨NB, YB, ZB, (⟨rfl, rfl, XB⟩ | ⟨rfl, rfl, XB⟩ | ⟨rfl, rfl, XB⟩ | ⟨rfl, rfl, XB⟩ | ⟨rfl, rfl, XB⟩)⟩ := hrel
  ·have ox := blk_cell XB.out 0 _ rfl
   have oy := blk_cell YB.out 0 _ rfl
   have ol := blk_lt XB.out
   have of_ := blk_frozen XB.out 0
   go_wp2_with fail
   go_quiet (fail)
   go_wp2_with fail
   refine ⟨⟨Lib.hid (Bset1 (below_drewN NB.out nq) (Nat.le_refl _) 0 _), Lib.hid (blk_set_other YB.out (by omega) 0 _), Lib.hid (blk_set_other ZB.out (by omega) 0 _), .inr (.inl ⟨rfl, rfl, Lib.hid (blk_set XB.out 0 (.int .u64 (d0 : Int)))⟩)⟩, by simp [intOf]⟩
  ·have ox := blk_cell XB.out 1 _ rfl
   have oy := blk_cell YB.out 1 _ rfl
   have ol := blk_lt XB.out
   have of_ := blk_frozen XB.out 1
   go_wp2_with fail
   go_quiet (fail)
   go_wp2_with fail
   refine ⟨⟨Lib.hid (Bset1 (below_drewN NB.out nq) (Nat.le_refl _) 1 _), Lib.hid (blk_set_other YB.out (by omega) 1 _), Lib.hid (blk_set_other ZB.out (by omega) 1 _), .inr (.inr (.inl ⟨rfl, rfl, Lib.hid (blk_set XB.out 1 (.int .u64 (d1 : Int)))⟩))⟩, by simp [intOf]⟩
  ·have ox := blk_cell XB.out 2 _ rfl
   have oy := blk_cell YB.out 2 _ rfl
   have ol := blk_lt XB.out
   have of_ := blk_frozen XB.out 2
   go_wp2_with fail
   go_quiet (fail)
   go_wp2_with fail
   refine ⟨⟨Lib.hid (Bset1 (below_drewN NB.out nq) (Nat.le_refl _) 2 _), Lib.hid (blk_set_other YB.out (by omega) 2 _), Lib.hid (blk_set_other ZB.out (by omega) 2 _), .inr (.inr (.inr (.inl ⟨rfl, rfl, Lib.hid (blk_set XB.out 2 (.int .u64 (d2 : Int)))⟩)))⟩, by simp [intOf]⟩
  ·have ox := blk_cell XB.out 3 _ rfl
   have oy := blk_cell YB.out 3 _ rfl
   have ol := blk_lt XB.out
   have of_ := blk_frozen XB.out 3
   go_wp2_with fail
   go_quiet (fail)
   go_wp2_with fail
   refine ⟨⟨Lib.hid (Bset1 (below_drewN NB.out nq) (Nat.le_refl _) 3 _), Lib.hid (blk_set_other YB.out (by omega) 3 _), Lib.hid (blk_set_other ZB.out (by omega) 3 _), .inr (.inr (.inr (.inr (⟨rfl, rfl, Lib.hid (blk_set XB.out 3 (.int .u64 (d3 : Int)))⟩))))⟩, by simp [intOf]⟩
  ·have z0 := blk_cell XB.out 0 _ rfl
   have z1 := blk_cell XB.out 1 _ rfl
   have z2 := blk_cell XB.out 2 _ rfl
   have z3 := blk_cell XB.out 3 _ rfl
   have y0 := blk_cell ZB.out 0 _ rfl
   have f0 := blk_frozen ZB.out 0
   have y1 := blk_cell ZB.out 1 _ rfl
   have f1 := blk_frozen ZB.out 1
   have y2 := blk_cell ZB.out 2 _ rfl
   have f2 := blk_frozen ZB.out 2
   have y3 := blk_cell ZB.out 3 _ rfl
   have f3 := blk_frozen ZB.out 3
   have gl := blk_lt ZB.out
   have ol := blk_lt XB.out
   go_wp2_with fail
   have Z := blk_set (blk_set (blk_set (blk_set ZB.out 0 (.int .u64 (d0 : Int))) 1 (.int .u64 (d1 : Int))) 2 (.int .u64 (d2 : Int))) 3 (.int .u64 (d3 : Int))
   have g0 := blk_cell Z 0 _ rfl
   have g1 := blk_cell Z 1 _ rfl
   have g2 := blk_cell Z 2 _ rfl
   have g3 := blk_cell Z 3 _ rfl
   refine bodyPost_ret (v := Bv d0 d1 d2 d3) (by simp [results, Try.results75, go_sem, g0, g1, g2, g3]) rfl ⟨by rw [FIN.out], Bset1 (Bset1 (Bset1 (Bset1 NB.out (by omega) _ _) (by omega) _ _) (by omega) _ _) (by omega) _ _⟩
set_option maxRecDepth 100000 in
set_option maxHeartbeats 8000000 in
theorem refRest_calls (x y : Nat) (w : World) (hx : sm4 x) (hy : sm4 y) (hyx : y ≤ x) :
  Calls Try.prog 77 #[Dv x, Dv y] w fun e w' => e = .returned (Dv (x - y)) ∧ Below w.heap.size w w' := by
 have FX : Hid (∀ d0 d1 d2 d3 : Nat, d0 < 4294967296 → d1 < 4294967296 → d2 < 4294967296 → d3 < 4294967296 → x - y = bigN d0 d1 d2 d3 → Bv d0 d1 d2 d3 = Dv (x - y)) := Lib.hid (fun d0 d1 d2 d3 h0 h1 h2 h3 h => dv_of h0 h1 h2 h3 h)
 obtain ⟨u, v, e1, e2, e3⟩ := dg_split hx
 obtain ⟨s, t, f1, f2, f3⟩ := dg_split hy
 have l0 := dg_lt x 0
 have l1 := dg_lt x 1
 have l2 := dg_lt x 2
 have l3 := dg_lt x 3
 have m0 := dg_lt y 0
 have m1 := dg_lt y 1
 have m2 := dg_lt y 2
 have m3 := dg_lt y 3
 generalize hres : Dv (x - y) = res at *
 unfold Dv
 generalize dg x 0 = a0 at *
 generalize dg x 1 = a1 at *
 generalize dg x 2 = a2 at *
 generalize dg x 3 = a3 at *
 generalize dg y 0 = b0 at *
 generalize dg y 1 = b1 at *
 generalize dg y 2 = b2 at *
 generalize dg y 3 = b3 at *
 obtain ⟨h0, hh0⟩ : ∃ z, z = a0 + 4294967295 := ⟨_, rfl⟩
 obtain ⟨g0, hg0⟩ : ∃ z, z = h0 + 1 := ⟨_, rfl⟩
 obtain ⟨e0', he0⟩ : ∃ z, z + b0 = g0 := ⟨g0 - b0, by omega⟩
 obtain ⟨t0, ht0⟩ : ∃ z, z = e0' := ⟨_, rfl⟩
 obtain ⟨d0, hd0⟩ : ∃ z, z = t0 % 4294967296 := ⟨_, rfl⟩
 obtain ⟨s0, hs0⟩ : ∃ z, z = t0 / 4294967296 := ⟨_, rfl⟩
 obtain ⟨o0, ho0⟩ : ∃ z, z + s0 = 1 := ⟨1 - s0, by omega⟩
 obtain ⟨h1, hh1⟩ : ∃ z, z = a1 + 4294967295 := ⟨_, rfl⟩
 obtain ⟨g1, hg1⟩ : ∃ z, z = h1 + 1 := ⟨_, rfl⟩
 obtain ⟨e1', he1⟩ : ∃ z, z + b1 = g1 := ⟨g1 - b1, by omega⟩
 obtain ⟨t1, ht1⟩ : ∃ z, z + o0 = e1' := ⟨e1' - o0, by omega⟩
 obtain ⟨d1, hd1⟩ : ∃ z, z = t1 % 4294967296 := ⟨_, rfl⟩
 obtain ⟨s1, hs1⟩ : ∃ z, z = t1 / 4294967296 := ⟨_, rfl⟩
 obtain ⟨o1, ho1⟩ : ∃ z, z + s1 = 1 := ⟨1 - s1, by omega⟩
 obtain ⟨h2, hh2⟩ : ∃ z, z = a2 + 4294967295 := ⟨_, rfl⟩
 obtain ⟨g2, hg2⟩ : ∃ z, z = h2 + 1 := ⟨_, rfl⟩
 obtain ⟨e2', he2⟩ : ∃ z, z + b2 = g2 := ⟨g2 - b2, by omega⟩
 obtain ⟨t2, ht2⟩ : ∃ z, z + o1 = e2' := ⟨e2' - o1, by omega⟩
 obtain ⟨d2, hd2⟩ : ∃ z, z = t2 % 4294967296 := ⟨_, rfl⟩
 obtain ⟨s2, hs2⟩ : ∃ z, z = t2 / 4294967296 := ⟨_, rfl⟩
 obtain ⟨o2, ho2⟩ : ∃ z, z + s2 = 1 := ⟨1 - s2, by omega⟩
 obtain ⟨h3, hh3⟩ : ∃ z, z = a3 + 4294967295 := ⟨_, rfl⟩
 obtain ⟨g3, hg3⟩ : ∃ z, z = h3 + 1 := ⟨_, rfl⟩
 obtain ⟨e3', he3⟩ : ∃ z, z + b3 = g3 := ⟨g3 - b3, by omega⟩
 obtain ⟨t3, ht3⟩ : ∃ z, z + o2 = e3' := ⟨e3' - o2, by omega⟩
 obtain ⟨d3, hd3⟩ : ∃ z, z = t3 % 4294967296 := ⟨_, rfl⟩
 obtain ⟨s3, hs3⟩ : ∃ z, z = t3 / 4294967296 := ⟨_, rfl⟩
 obtain ⟨o3, ho3⟩ : ∃ z, z + s3 = 1 := ⟨1 - s3, by omega⟩
 have o30 : o3 = 0 := by
  by_cases e : o3 = 0
  ·exact e
  ·exfalso
   have k3 : a3 + 1 ≤ b3 + o2 := by omega
   have k2 : o2 = 1 → a2 + 1 ≤ b2 + o1 := fun h => by omega
   have k1 : o1 = 1 → a1 + 1 ≤ b1 + o0 := fun h => by omega
   have k0 : o0 = 1 → a0 + 1 ≤ b0 := fun h => by omega
   have v2 : v + 1 ≤ t + o1 := by omega
   have v1 : u + 1 ≤ s + o0 := by omega
   have v0 : x + 1 ≤ y := by omega
   omega
 have q2' : v = t + o1 + d2 + 4294967296 * d3 := by omega
 have q1' : u = s + o0 + (d1 + 4294967296 * (d2 + 4294967296 * d3)) := by omega
 have q0' : x = y + (d0 + 4294967296 * (d1 + 4294967296 * (d2 + 4294967296 * d3))) := by omega
 have FIN : Hid (Bv d0 d1 d2 d3 = res) := Lib.hid (FX.out d0 d1 d2 d3 (by omega) (by omega) (by omega) (by omega) (by unfold bigN; omega))
 have n0 : (a0 : Int) + 4294967295 = (h0 : Int) := by omega
 have nn0 : (h0 : Int) + 1 = (g0 : Int) := by omega
 have ne0 : (g0 : Int) - (b0 : Int) = (e0' : Int) := by omega
 have nt0 : (e0' : Int) = (t0 : Int) := by omega
 have r0 : bits .and .u64 (t0 : Int) 4294967295 = (d0 : Int) := by rw [hd0]; exact and32 t0 (by omega)
 have r0' : (t0 : Int) / 4294967296 = (s0 : Int) := by omega
 have ro0 : (1 : Int) - (s0 : Int) = (o0 : Int) := by omega
 have c0 : t0 < 18446744073709551616 := by omega
 have ch0 : h0 < 18446744073709551616 := by omega
 have cg0 : g0 < 18446744073709551616 := by omega
 have ce0 : e0' < 18446744073709551616 := by omega
 have n1 : (a1 : Int) + 4294967295 = (h1 : Int) := by omega
 have nn1 : (h1 : Int) + 1 = (g1 : Int) := by omega
 have ne1 : (g1 : Int) - (b1 : Int) = (e1' : Int) := by omega
 have nt1 : (e1' : Int) - (o0 : Int) = (t1 : Int) := by omega
 have r1 : bits .and .u64 (t1 : Int) 4294967295 = (d1 : Int) := by rw [hd1]; exact and32 t1 (by omega)
 have r1' : (t1 : Int) / 4294967296 = (s1 : Int) := by omega
 have ro1 : (1 : Int) - (s1 : Int) = (o1 : Int) := by omega
 have c1 : t1 < 18446744073709551616 := by omega
 have ch1 : h1 < 18446744073709551616 := by omega
 have cg1 : g1 < 18446744073709551616 := by omega
 have ce1 : e1' < 18446744073709551616 := by omega
 have n2 : (a2 : Int) + 4294967295 = (h2 : Int) := by omega
 have nn2 : (h2 : Int) + 1 = (g2 : Int) := by omega
 have ne2 : (g2 : Int) - (b2 : Int) = (e2' : Int) := by omega
 have nt2 : (e2' : Int) - (o1 : Int) = (t2 : Int) := by omega
 have r2 : bits .and .u64 (t2 : Int) 4294967295 = (d2 : Int) := by rw [hd2]; exact and32 t2 (by omega)
 have r2' : (t2 : Int) / 4294967296 = (s2 : Int) := by omega
 have ro2 : (1 : Int) - (s2 : Int) = (o2 : Int) := by omega
 have c2 : t2 < 18446744073709551616 := by omega
 have ch2 : h2 < 18446744073709551616 := by omega
 have cg2 : g2 < 18446744073709551616 := by omega
 have ce2 : e2' < 18446744073709551616 := by omega
 have n3 : (a3 : Int) + 4294967295 = (h3 : Int) := by omega
 have nn3 : (h3 : Int) + 1 = (g3 : Int) := by omega
 have ne3 : (g3 : Int) - (b3 : Int) = (e3' : Int) := by omega
 have nt3 : (e3' : Int) - (o2 : Int) = (t3 : Int) := by omega
 have r3 : bits .and .u64 (t3 : Int) 4294967295 = (d3 : Int) := by rw [hd3]; exact and32 t3 (by omega)
 have r3' : (t3 : Int) / 4294967296 = (s3 : Int) := by omega
 have ro3 : (1 : Int) - (s3 : Int) = (o3 : Int) := by omega
 have c3 : t3 < 18446744073709551616 := by omega
 have ch3 : h3 < 18446744073709551616 := by omega
 have cg3 : g3 < 18446744073709551616 := by omega
 have ce3 : e3' < 18446744073709551616 := by omega
 clear hh0 hg0 he0 ht0 hd0 hs0 ho0 hh1 hg1 he1 ht1 hd1 hs1 ho1 hh2 hg2 he2 ht2 hd2 hs2 ho2 hh3 hg3 he3 ht3 hd3 hs3 ho3 e1 e2 e3 f1 f2 f3 q2' q1' q0' FX hres o30 hyx
 go_enter Try.func77, Try.ntmps77
 go_wp2_with fail
 have XB : Hid ((((w.alloc (.cells #[.int .u64 (a0 : Int), .int .u64 (a1 : Int), .int .u64 (a2 : Int), .int .u64 (a3 : Int)] 110)).alloc (.cells #[.int .u64 (b0 : Int), .int .u64 (b1 : Int), .int .u64 (b2 : Int), .int .u64 (b3 : Int)] 110)).alloc (.cells #[.int .u64 0, .int .u64 0, .int .u64 0, .int .u64 0] 110)).heap[w.heap.size]? = some (.cells #[.int .u64 (a0 : Int), .int .u64 (a1 : Int), .int .u64 (a2 : Int), .int .u64 (a3 : Int)] 110)) := Lib.hid (blk_alloc (blk_alloc (blk_new w _) _) _)
 have YB := Lib.hid (blk3b w (.cells #[.int .u64 (a0 : Int), .int .u64 (a1 : Int), .int .u64 (a2 : Int), .int .u64 (a3 : Int)] 110) (.cells #[.int .u64 (b0 : Int), .int .u64 (b1 : Int), .int .u64 (b2 : Int), .int .u64 (b3 : Int)] 110) (.cells #[.int .u64 0, .int .u64 0, .int .u64 0, .int .u64 0] 110))
 have ZB := Lib.hid (blk3c w (.cells #[.int .u64 (a0 : Int), .int .u64 (a1 : Int), .int .u64 (a2 : Int), .int .u64 (a3 : Int)] 110) (.cells #[.int .u64 (b0 : Int), .int .u64 (b1 : Int), .int .u64 (b2 : Int), .int .u64 (b3 : Int)] 110) (.cells #[.int .u64 0, .int .u64 0, .int .u64 0, .int .u64 0] 110))
 have NB : Hid (Below w.heap.size w (((w.alloc (.cells #[.int .u64 (a0 : Int), .int .u64 (a1 : Int), .int .u64 (a2 : Int), .int .u64 (a3 : Int)] 110)).alloc (.cells #[.int .u64 (b0 : Int), .int .u64 (b1 : Int), .int .u64 (b2 : Int), .int .u64 (b3 : Int)] 110)).alloc (.cells #[.int .u64 0, .int .u64 0, .int .u64 0, .int .u64 0] 110))) := Lib.hid (Bal (Bal (Bal (Below.refl _ _) _) _) _)
 generalize ((w.alloc (.cells #[.int .u64 (a0 : Int), .int .u64 (a1 : Int), .int .u64 (a2 : Int), .int .u64 (a3 : Int)] 110)).alloc (.cells #[.int .u64 (b0 : Int), .int .u64 (b1 : Int), .int .u64 (b2 : Int), .int .u64 (b3 : Int)] 110)).alloc (.cells #[.int .u64 0, .int .u64 0, .int .u64 0, .int .u64 0] 110) = W at *
 go_loopw [5, 6] (fun c i wr => Hid (Below w.heap.size w wr) ∧ Hid (wr.heap[w.heap.size + 1]? = some (.cells #[.int .u64 (b0 : Int), .int .u64 (b1 : Int), .int .u64 (b2 : Int), .int .u64 (b3 : Int)] 110)) ∧ Hid (wr.heap[w.heap.size + 1 + 1]? = some (.cells #[.int .u64 0, .int .u64 0, .int .u64 0, .int .u64 0] 110)) ∧ ((i = .int .i64 0 ∧ c = .int .u64 0 ∧ Hid (wr.heap[w.heap.size]? = some (.cells #[.int .u64 (a0 : Int), .int .u64 (a1 : Int), .int .u64 (a2 : Int), .int .u64 (a3 : Int)] 110))) ∨ (i = .int .i64 1 ∧ c = .int .u64 (o0 : Int) ∧ Hid (wr.heap[w.heap.size]? = some (.cells #[.int .u64 (d0 : Int), .int .u64 (a1 : Int), .int .u64 (a2 : Int), .int .u64 (a3 : Int)] 110))) ∨ (i = .int .i64 2 ∧ c = .int .u64 (o1 : Int) ∧ Hid (wr.heap[w.heap.size]? = some (.cells #[.int .u64 (d0 : Int), .int .u64 (d1 : Int), .int .u64 (a2 : Int), .int .u64 (a3 : Int)] 110))) ∨ (i = .int .i64 3 ∧ c = .int .u64 (o2 : Int) ∧ Hid (wr.heap[w.heap.size]? = some (.cells #[.int .u64 (d0 : Int), .int .u64 (d1 : Int), .int .u64 (d2 : Int), .int .u64 (a3 : Int)] 110))) ∨ (i = .int .i64 4 ∧ c = .int .u64 (o3 : Int) ∧ Hid (wr.heap[w.heap.size]? = some (.cells #[.int .u64 (d0 : Int), .int .u64 (d1 : Int), .int .u64 (d2 : Int), .int .u64 (d3 : Int)] 110))))) (fun _ i _ => 4 - (intOf i).toNat)
 case atStart => exact ⟨NB, YB, ZB, .inl ⟨rfl, rfl, XB⟩⟩
 case round =>
  clear NB YB ZB XB
  obtain ⟨NB, YB, ZB, (⟨rfl, rfl, XB⟩ | ⟨rfl, rfl, XB⟩ | ⟨rfl, rfl, XB⟩ | ⟨rfl, rfl, XB⟩ | ⟨rfl, rfl, XB⟩)⟩ := hrel
  ·have ox := blk_cell XB.out 0 _ rfl
   have oy := blk_cell YB.out 0 _ rfl
   have ol := blk_lt XB.out
   have of_ := blk_frozen XB.out 0
   go_wp2_with fail
   go_quiet (fail)
   go_wp2_with fail
   refine ⟨⟨Lib.hid (Bset1 (below_drewN NB.out nq) (Nat.le_refl _) 0 _), Lib.hid (blk_set_other YB.out (by omega) 0 _), Lib.hid (blk_set_other ZB.out (by omega) 0 _), .inr (.inl ⟨rfl, rfl, Lib.hid (blk_set XB.out 0 (.int .u64 (d0 : Int)))⟩)⟩, by simp [intOf]⟩
  ·have ox := blk_cell XB.out 1 _ rfl
   have oy := blk_cell YB.out 1 _ rfl
   have ol := blk_lt XB.out
   have of_ := blk_frozen XB.out 1
   go_wp2_with fail
   go_quiet (fail)
   go_wp2_with fail
   refine ⟨⟨Lib.hid (Bset1 (below_drewN NB.out nq) (Nat.le_refl _) 1 _), Lib.hid (blk_set_other YB.out (by omega) 1 _), Lib.hid (blk_set_other ZB.out (by omega) 1 _), .inr (.inr (.inl ⟨rfl, rfl, Lib.hid (blk_set XB.out 1 (.int .u64 (d1 : Int)))⟩))⟩, by simp [intOf]⟩
  ·have ox := blk_cell XB.out 2 _ rfl
   have oy := blk_cell YB.out 2 _ rfl
   have ol := blk_lt XB.out
   have of_ := blk_frozen XB.out 2
   go_wp2_with fail
   go_quiet (fail)
   go_wp2_with fail
   refine ⟨⟨Lib.hid (Bset1 (below_drewN NB.out nq) (Nat.le_refl _) 2 _), Lib.hid (blk_set_other YB.out (by omega) 2 _), Lib.hid (blk_set_other ZB.out (by omega) 2 _), .inr (.inr (.inr (.inl ⟨rfl, rfl, Lib.hid (blk_set XB.out 2 (.int .u64 (d2 : Int)))⟩)))⟩, by simp [intOf]⟩
  ·have ox := blk_cell XB.out 3 _ rfl
   have oy := blk_cell YB.out 3 _ rfl
   have ol := blk_lt XB.out
   have of_ := blk_frozen XB.out 3
   go_wp2_with fail
   go_quiet (fail)
   go_wp2_with fail
   refine ⟨⟨Lib.hid (Bset1 (below_drewN NB.out nq) (Nat.le_refl _) 3 _), Lib.hid (blk_set_other YB.out (by omega) 3 _), Lib.hid (blk_set_other ZB.out (by omega) 3 _), .inr (.inr (.inr (.inr (⟨rfl, rfl, Lib.hid (blk_set XB.out 3 (.int .u64 (d3 : Int)))⟩))))⟩, by simp [intOf]⟩
  ·have z0 := blk_cell XB.out 0 _ rfl
   have z1 := blk_cell XB.out 1 _ rfl
   have z2 := blk_cell XB.out 2 _ rfl
   have z3 := blk_cell XB.out 3 _ rfl
   have y0 := blk_cell ZB.out 0 _ rfl
   have f0 := blk_frozen ZB.out 0
   have y1 := blk_cell ZB.out 1 _ rfl
   have f1 := blk_frozen ZB.out 1
   have y2 := blk_cell ZB.out 2 _ rfl
   have f2 := blk_frozen ZB.out 2
   have y3 := blk_cell ZB.out 3 _ rfl
   have f3 := blk_frozen ZB.out 3
   have gl := blk_lt ZB.out
   have ol := blk_lt XB.out
   go_wp2_with fail
   have Z := blk_set (blk_set (blk_set (blk_set ZB.out 0 (.int .u64 (d0 : Int))) 1 (.int .u64 (d1 : Int))) 2 (.int .u64 (d2 : Int))) 3 (.int .u64 (d3 : Int))
   have g0 := blk_cell Z 0 _ rfl
   have g1 := blk_cell Z 1 _ rfl
   have g2 := blk_cell Z 2 _ rfl
   have g3 := blk_cell Z 3 _ rfl
   refine bodyPost_ret (v := Bv d0 d1 d2 d3) (by simp [results, Try.results77, go_sem, g0, g1, g2, g3]) rfl ⟨by rw [FIN.out], Bset1 (Bset1 (Bset1 (Bset1 NB.out (by omega) _ _) (by omega) _ _) (by omega) _ _) (by omega) _ _⟩
end Go.Proofs.Ytbbnkclajpaghaa
namespace Go.Proofs.Ytbbnkclajpaghaa
open Go.ChangeShapes Go.WideShapes Go.ChangeAt Go.RowKit
set_option linter.unusedVariables false
set_option maxRecDepth 100000
attribute [local go_sem ↓] Go.wp_at_zero Go.wp_at_succ
def Ov (n r0 D k r o : Nat) : Prop := ∃ q, r0 * 2 ^ (32 - k) + D / 2 ^ k = q * n + r ∧ r < n ∧ o = q * 2 ^ k ∧ q < 2 ^ (32 - k)
theorem ov_init {n r0 D : Nat} (h : r0 < n) (hD : D < 4294967296) : Ov n r0 D 32 r0 0 := ⟨0, by
 have : D / 2 ^ 32 = 0 := Nat.div_eq_of_lt hD
 rw [this]; simp, h, by simp, by simp⟩
theorem ov_lt {n r0 D k r o : Nat} (h : Ov n r0 D k r o) (hk : k ≤ 32) : o < 4294967296 := by
 obtain ⟨q, e, hr, rfl, hq⟩ := h
 have e2 : 2 ^ (32 - k) * 2 ^ k = 4294967296 := by rw [← Nat.pow_add, Nat.sub_add_cancel hk]
 rw [← e2]
 exact Nat.mul_lt_mul_of_pos_right hq (Nat.two_pow_pos k)
theorem ov_bit (D j : Nat) : D / 2 ^ j = 2 * (D / 2 ^ (j + 1)) + D / 2 ^ j % 2 := by
 have : D / 2 ^ (j + 1) = D / 2 ^ j / 2 := by rw [Nat.pow_succ, Nat.div_div_eq_div_mul]
 omega
theorem ov_eq {n r0 D j r q c : Nat} (hj : j < 32) (e : r0 * 2 ^ (32 - (j + 1)) + D / 2 ^ (j + 1) = q * n + r) (hc : D / 2 ^ j % 2 = c) : r0 * 2 ^ (32 - j) + D / 2 ^ j = 2 * (q * n) + (2 * r + c) := by
 have e1 : 32 - j = (32 - (j + 1)) + 1 := by omega
 have b := ov_bit D j
 rw [hc] at b
 rw [e1, Nat.pow_succ, ← Nat.mul_assoc, b]
 generalize r0 * 2 ^ (32 - (j + 1)) = A at *
 omega
theorem ov_q {j q : Nat} (hj : j < 32) (h : q < 2 ^ (32 - (j + 1))) : 2 * q + 1 < 2 ^ (32 - j) := by
 have e1 : 32 - j = (32 - (j + 1)) + 1 := by omega
 rw [e1, Nat.pow_succ]
 omega
theorem ov_less {n r0 D j r o c : Nat} (h : Ov n r0 D (j + 1) r o) (hj : j < 32) (hc : D / 2 ^ j % 2 = c) (hl : 2 * r + c < n) : Ov n r0 D j (2 * r + c) o := by
 obtain ⟨q, e, hr, rfl, hq⟩ := h
 refine ⟨2 * q, ?_, hl, ?_, ?_⟩
 ·rw [ov_eq hj e hc, Nat.mul_assoc]
 ·rw [Nat.pow_succ]; grind
 ·have := ov_q hj hq; omega
theorem ov_more {n r0 D j r o c : Nat} (h : Ov n r0 D (j + 1) r o) (hj : j < 32) (hc : D / 2 ^ j % 2 = c) (hl : n ≤ 2 * r + c) : Ov n r0 D j (2 * r + c - n) (o + 2 ^ j) := by
 obtain ⟨q, e, hr, rfl, hq⟩ := h
 refine ⟨2 * q + 1, ?_, ?_, ?_, ?_⟩
 ·rw [ov_eq hj e hc, Nat.add_mul, Nat.mul_assoc]; omega
 ·have : D / 2 ^ j % 2 < 2 := Nat.mod_lt _ (by omega)
  omega
 ·rw [Nat.pow_succ]; grind
 ·exact ov_q hj hq
theorem ov_or {n r0 D j r o : Nat} (h : Ov n r0 D (j + 1) r o) (hj : j < 32) : bits .or .u64 (o : Int) (2 ^ j : Int) = ((o + 2 ^ j : Nat) : Int) := by
 have l := ov_lt h (by omega)
 have p : 2 ^ j < 4294967296 := Nat.pow_lt_pow_right (a := 2) (n := 32) (by omega) hj
 obtain ⟨q, e, hr, rfl, hq⟩ := h
 have h := u64_or_nat (q * 2 ^ (j + 1)) (2 ^ j) (by omega) (by omega)
 rw [show ((2 ^ j : Nat) : Int) = (2 ^ j : Int) from by simp] at h
 rw [h]
 congr 1
 have h2 := Nat.shiftLeft_add_eq_or_of_lt (i := j + 1) (b := 2 ^ j) (Nat.pow_lt_pow_right (by omega) (by omega)) q
 rw [Nat.shiftLeft_eq] at h2
 exact h2.symm
theorem ov_or1 (r c : Nat) (hr : r < 4611686018427387904) (hc : c < 2) : bits .or .u64 ((r : Int) * 2) (c : Int) = ((2 * r + c : Nat) : Int) := by
 have h := u64_or_nat (r * 2) c (by omega) (by omega)
 rw [show (((r * 2 : Nat) : Nat) : Int) = (r : Int) * 2 by omega] at h
 rw [h]
 congr 1
 have h2 := Nat.shiftLeft_add_eq_or_of_lt (i := 1) (b := c) (by omega) r
 rw [Nat.shiftLeft_eq, Nat.pow_one] at h2
 omega
theorem ov_and1 (D j : Nat) (hD : D < 4294967296) : bits .and .u64 ((D : Int) / 2 ^ j) 1 = ((D / 2 ^ j % 2 : Nat) : Int) := by
 have l : D / 2 ^ j ≤ D := Nat.div_le_self _ _
 have h := u64_and_nat (D / 2 ^ j) 1 (by omega) (by omega)
 rw [show ((D / 2 ^ j : Nat) : Int) = (D : Int) / 2 ^ j from by simp] at h
 rw [show ((1 : Nat) : Int) = 1 from rfl] at h
 rw [h]
 congr 1
 exact Nat.and_one_is_mod _
theorem ov_cast (j : Nat) : ((2 ^ j : Nat) : Int) = (2 : Int) ^ j := by simp
theorem ov_pow {j : Nat} (h : j ≤ 31) : (2 : Int) ^ j ≤ 2147483648 := by
 have h1 : 2 ^ j ≤ 2 ^ 31 := Nat.pow_le_pow_right (n := 2) (by omega) h
 rw [← ov_cast j]
 omega
theorem ov_pos (j : Nat) : (0 : Int) < (2 : Int) ^ j := by
 have h1 := Nat.two_pow_pos j
 rw [← ov_cast j]
 omega
theorem ov_wrap {j : Nat} (h : j ≤ 31) : IntKind.u64.wrap ((2 : Int) ^ j) = (2 : Int) ^ j := by
 have h1 := ov_pow h
 have h2 := ov_pos j
 rw [IntKind.wrap_u64]
 omega
theorem ov_done {n r0 D r o R O : Nat} (h : Ov n r0 D 0 r o) (e : r0 * 4294967296 + D = O * n + R) (hR : R < n) : r = R ∧ o = O := by
 obtain ⟨q, e1, hr, rfl, hq⟩ := h
 have e2 : r0 * 4294967296 + D = q * n + r := by
  have : D / 2 ^ 0 = D := by simp
  rw [this] at e1
  exact e1
 have k1 : (r0 * 4294967296 + D) % n = r := by rw [e2, Nat.mul_comm, Nat.mul_add_mod, Nat.mod_eq_of_lt hr]
 have k2 : (r0 * 4294967296 + D) % n = R := by rw [e, Nat.mul_comm, Nat.mul_add_mod, Nat.mod_eq_of_lt hR]
 have k3 : (r0 * 4294967296 + D) / n = q := by rw [e2, Nat.mul_comm, Nat.mul_add_div (by omega), Nat.div_eq_of_lt hr]; rfl
 have k4 : (r0 * 4294967296 + D) / n = O := by rw [e, Nat.mul_comm, Nat.mul_add_div (by omega), Nat.div_eq_of_lt hR]; rfl
 refine ⟨by omega, by simp; omega⟩
theorem ov_four {x n a b c d A B C E R0 R1 R2 R3 : Nat} {u v : Nat} (h1 : x = a + 4294967296 * u) (h2 : u = b + 4294967296 * v) (h3 : v = c + 4294967296 * d)
  (k3 : d = E * n + R3) (k2 : R3 * 4294967296 + c = C * n + R2) (k1 : R2 * 4294967296 + b = B * n + R1) (k0 : R1 * 4294967296 + a = A * n + R0) : x = bigN A B C E * n + R0 := by
 unfold bigN
 grind
set_option maxRecDepth 100000 in
set_option maxHeartbeats 8000000 in
theorem refOver_calls (x n : Nat) (w : World) (hx : sm4 x) (h1 : 1 ≤ n) (hn : n < 4611686018427387904) :
  Calls Try.prog 78 #[Dv x, .int .u64 n] w fun e w' => e = .returned (.tuple #[Dv (x / n), .int .u64 (x % n : Nat)]) ∧ Below w.heap.size w w' := by
 obtain ⟨u, v, e1, e2, e3⟩ := dg_split hx
 have l0 := dg_lt x 0
 have l1 := dg_lt x 1
 have l2 := dg_lt x 2
 have l3 := dg_lt x 3
 have FX : Hid (∀ O0 O1 O2 O3 R : Nat, O0 < 4294967296 → O1 < 4294967296 → O2 < 4294967296 → O3 < 4294967296 → R < n → x = bigN O0 O1 O2 O3 * n + R → Bv O0 O1 O2 O3 = Dv (x / n) ∧ R = x % n) := Lib.hid (fun O0 O1 O2 O3 R h0 h1 h2 h3 hR h => by
  have k1 : x % n = R := by rw [h, Nat.mul_comm, Nat.mul_add_mod, Nat.mod_eq_of_lt hR]
  have k2 : x / n = bigN O0 O1 O2 O3 := by rw [h, Nat.mul_comm, Nat.mul_add_div (by omega), Nat.div_eq_of_lt hR]; rfl
  exact ⟨dv_of h0 h1 h2 h3 k2, k1.symm⟩)
 generalize hres : Dv (x / n) = res at *
 generalize hrem : x % n = rem at *
 unfold Dv
 generalize dg x 0 = a0 at *
 generalize dg x 1 = a1 at *
 generalize dg x 2 = a2 at *
 generalize dg x 3 = a3 at *
 have dv : ∀ R D : Nat, R < n → D < 4294967296 → ∃ O S : Nat, R * 4294967296 + D = O * n + S ∧ S < n ∧ O < 4294967296 := fun R D hR hD => ⟨(R * 4294967296 + D) / n, (R * 4294967296 + D) % n, by rw [Nat.mul_comm _ n]; exact (Nat.div_add_mod _ _).symm, Nat.mod_lt _ (by omega), by
  rw [Nat.div_lt_iff_lt_mul (by omega)]
  have : (R + 1) * 4294967296 ≤ n * 4294967296 := Nat.mul_le_mul_right _ hR
  rw [Nat.mul_comm 4294967296 n]; omega⟩
 obtain ⟨O3, R3, g3, m3, n3⟩ := dv 0 a3 (by omega) l3
 obtain ⟨O2, R2, g2, m2, n2⟩ := dv R3 a2 m3 l2
 obtain ⟨O1, R1, g1, m1, n1⟩ := dv R2 a1 m2 l1
 obtain ⟨O0, R0, g0, m0, n0⟩ := dv R1 a0 m1 l0
 have FIN : Hid (Bv O0 O1 O2 O3 = res ∧ R0 = rem) := Lib.hid (FX.out O0 O1 O2 O3 R0 n0 n1 n2 n3 m0 (ov_four e1 e2 e3 (by omega) g2 g1 g0))
 have G0 := Lib.hid g0
 have G1 := Lib.hid g1
 have G2 := Lib.hid g2
 have G3 := Lib.hid g3
 clear g0 g1 g2 g3 e1 e2 e3 FX hres hrem dv
 go_enter Try.func78, Try.ntmps78
 go_wp2_with fail
 have XB : Hid ((((w.alloc (.cells #[.int .u64 (a0 : Int), .int .u64 (a1 : Int), .int .u64 (a2 : Int), .int .u64 (a3 : Int)] 110)).alloc (.cells #[.int .u64 0, .int .u64 0, .int .u64 0, .int .u64 0] 110)).alloc (.cells #[.int .u64 0, .int .u64 0, .int .u64 0, .int .u64 0] 110)).heap[w.heap.size]? = some (.cells #[.int .u64 (a0 : Int), .int .u64 (a1 : Int), .int .u64 (a2 : Int), .int .u64 (a3 : Int)] 110)) := Lib.hid (blk_alloc (blk_alloc (blk_new w _) _) _)
 have ZB := Lib.hid (blk3b w (.cells #[.int .u64 (a0 : Int), .int .u64 (a1 : Int), .int .u64 (a2 : Int), .int .u64 (a3 : Int)] 110) (.cells #[.int .u64 0, .int .u64 0, .int .u64 0, .int .u64 0] 110) (.cells #[.int .u64 0, .int .u64 0, .int .u64 0, .int .u64 0] 110))
 have OB := Lib.hid (blk3c w (.cells #[.int .u64 (a0 : Int), .int .u64 (a1 : Int), .int .u64 (a2 : Int), .int .u64 (a3 : Int)] 110) (.cells #[.int .u64 0, .int .u64 0, .int .u64 0, .int .u64 0] 110) (.cells #[.int .u64 0, .int .u64 0, .int .u64 0, .int .u64 0] 110))
 have NB : Hid (Below w.heap.size w (((w.alloc (.cells #[.int .u64 (a0 : Int), .int .u64 (a1 : Int), .int .u64 (a2 : Int), .int .u64 (a3 : Int)] 110)).alloc (.cells #[.int .u64 0, .int .u64 0, .int .u64 0, .int .u64 0] 110)).alloc (.cells #[.int .u64 0, .int .u64 0, .int .u64 0, .int .u64 0] 110))) := Lib.hid (Bal (Bal (Bal (Below.refl _ _) _) _) _)
 generalize ((w.alloc (.cells #[.int .u64 (a0 : Int), .int .u64 (a1 : Int), .int .u64 (a2 : Int), .int .u64 (a3 : Int)] 110)).alloc (.cells #[.int .u64 0, .int .u64 0, .int .u64 0, .int .u64 0] 110)).alloc (.cells #[.int .u64 0, .int .u64 0, .int .u64 0, .int .u64 0] 110) = W at *
 have e1 : Hid (w.heap.size + 1 + 1 ≠ w.heap.size) := Lib.hid (by omega)
 have e2 : Hid (w.heap.size + 1 + 1 ≠ w.heap.size + 1) := Lib.hid (by omega)
 have e3 : Hid (w.heap.size ≤ w.heap.size + 1 + 1) := Lib.hid (by omega)
 have e4 : Hid (w.heap.size ≤ w.heap.size + 1) := Lib.hid (by omega)
 go_loopw [7, 8] (fun r i wr => Hid (Below w.heap.size w wr) ∧ Hid (wr.heap[w.heap.size]? = some (.cells #[.int .u64 (a0 : Int), .int .u64 (a1 : Int), .int .u64 (a2 : Int), .int .u64 (a3 : Int)] 110)) ∧ Hid (wr.heap[w.heap.size + 1]? = some (.cells #[.int .u64 0, .int .u64 0, .int .u64 0, .int .u64 0] 110)) ∧ ((r = .int .u64 0 ∧ i = .int .i64 3 ∧ Hid (wr.heap[w.heap.size + 1 + 1]? = some (.cells #[.int .u64 0, .int .u64 0, .int .u64 0, .int .u64 0] 110))) ∨ (r = .int .u64 (R3 : Int) ∧ i = .int .i64 2 ∧ Hid (wr.heap[w.heap.size + 1 + 1]? = some (.cells #[.int .u64 0, .int .u64 0, .int .u64 0, .int .u64 (O3 : Int)] 110))) ∨ (r = .int .u64 (R2 : Int) ∧ i = .int .i64 1 ∧ Hid (wr.heap[w.heap.size + 1 + 1]? = some (.cells #[.int .u64 0, .int .u64 0, .int .u64 (O2 : Int), .int .u64 (O3 : Int)] 110))) ∨ (r = .int .u64 (R1 : Int) ∧ i = .int .i64 0 ∧ Hid (wr.heap[w.heap.size + 1 + 1]? = some (.cells #[.int .u64 0, .int .u64 (O1 : Int), .int .u64 (O2 : Int), .int .u64 (O3 : Int)] 110))) ∨ (r = .int .u64 (R0 : Int) ∧ i = .int .i64 (-1) ∧ Hid (wr.heap[w.heap.size + 1 + 1]? = some (.cells #[.int .u64 (O0 : Int), .int .u64 (O1 : Int), .int .u64 (O2 : Int), .int .u64 (O3 : Int)] 110))))) (fun _ i _ => (intOf i + 1).toNat)
 case atStart => exact ⟨NB, XB, ZB, .inl ⟨rfl, rfl, OB⟩⟩
 case round =>
  clear NB XB ZB OB
  obtain ⟨NB, XB, ZB, (⟨rfl, rfl, OB⟩ | ⟨rfl, rfl, OB⟩ | ⟨rfl, rfl, OB⟩ | ⟨rfl, rfl, OB⟩ | ⟨rfl, rfl, OB⟩)⟩ := hrel
  ·obtain ⟨wo, rfl⟩ : ∃ wo : World, wo = wr := ⟨_, rfl⟩
   go_wp2_with fail
   go_loopw [7, 9] (fun s b wr => ∃ k r o : Nat, k ≤ 32 ∧ b = .int .i64 ((k : Int) - 1) ∧ s = .int .u64 (r : Int) ∧ Hid (Ov n 0 a3 k r o) ∧ Hid (Below w.heap.size w wr) ∧ Hid (wr.heap[w.heap.size]? = some (.cells #[.int .u64 (a0 : Int), .int .u64 (a1 : Int), .int .u64 (a2 : Int), .int .u64 (a3 : Int)] 110)) ∧ Hid (wr.heap[w.heap.size + 1]? = some (.cells #[.int .u64 0, .int .u64 0, .int .u64 0, .int .u64 0] 110)) ∧ Hid (wr.heap[w.heap.size + 1 + 1]? = some (.cells #[.int .u64 0, .int .u64 0, .int .u64 0, .int .u64 (o : Int)] 110))) (fun _ b _ => (intOf b + 1).toNat)
   case atStart => exact ⟨32, 0, 0, Nat.le_refl _, rfl, rfl, Lib.hid (ov_init (by omega) l3), NB, XB, ZB, OB⟩
   case round =>
    clear NB XB ZB OB
    obtain ⟨k, r, o, hk, rfl, rfl, OV, NB, XB, ZB, OB⟩ := hrel
    cases k with
    | zero =>
     rw [show (((0 : Nat) : Int) - 1) = -1 from rfl]
     obtain ⟨rfl, rfl⟩ := ov_done OV.out G3.out m3
     go_wp2_with fail
     go_roundw
     case rel => exact ⟨NB, XB, ZB, .inr (.inl ⟨rfl, rfl, OB⟩)⟩
     case measure => simp [intOf]
    | succ j =>
     have hj : j ≤ 31 := by omega
     rw [show (((j + 1 : Nat) : Int) - 1) = (j : Int) by omega]
     obtain ⟨hr, ho⟩ : r < n ∧ o < 4294967296 := ⟨by obtain ⟨_, _, h, _, _⟩ := OV.out; exact h, ov_lt OV.out hk⟩
     have ba := ov_and1 a3 j l3
     obtain ⟨c, hc⟩ : ∃ c, a3 / 2 ^ j % 2 = c := ⟨_, rfl⟩
     have c2 : c < 2 := by omega
     rw [hc] at ba
     have bo := ov_or1 r c (by omega) c2
     have HC := Lib.hid hc
     have HL := Lib.hid (fun h => ov_less OV.out (Nat.lt_succ_of_le hj) HC.out h)
     have HM := Lib.hid (fun h => ov_more OV.out (Nat.lt_succ_of_le hj) HC.out h)
     have bp := ov_or OV.out (Nat.lt_succ_of_le hj)
     obtain ⟨t, ht⟩ : ∃ t, 2 * r + c = t := ⟨_, rfl⟩
     rw [ht] at bo HL HM
     have pj : (2 : Int) ^ j ≤ 2147483648 := ov_pow hj
     have wj := ov_wrap hj
     have pp : (0 : Int) < (2 : Int) ^ j := ov_pos j
     have xx := blk_cell XB.out 3 _ rfl
     have oo := blk_cell OB.out 3 _ rfl
     have ol := blk_lt OB.out
     have of_ := blk_frozen OB.out 3
     have tb : t < 18446744073709551616 := by omega
     clear hc HC
     by_cases ct : n ≤ t
     ·have ct' : (n : Int) ≤ (t : Int) := by omega
      have HM' := Lib.hid (HM.out ct)
      obtain ⟨z, hz⟩ : ∃ z, t - n = z := ⟨_, rfl⟩
      obtain ⟨y, hy⟩ : ∃ y, o + 2 ^ j = y := ⟨_, rfl⟩
      rw [hz, hy] at HM'
      rw [hy] at bp
      have hy' := ov_lt HM'.out (by omega)
      have sz : (t : Int) - (n : Int) = (z : Int) := by omega
      have zb : z < 4611686018427387904 := by omega
      have HZ := Lib.hid hz
      clear hz hy ht HL HM
      go_wp2_with fail
      go_region
      go_wp2_with fail
      refine ⟨⟨j, z, y, by omega, rfl, rfl, HM', Lib.hid (Bset1 (below_drewN NB.out 1) e3.out 3 _), Lib.hid (blk_set_other XB.out e1.out 3 _), Lib.hid (blk_set_other ZB.out e2.out 3 _), Lib.hid (blk_set OB.out 3 (.int .u64 (y : Int)))⟩, by simp [intOf]⟩
     ·have ct' : (t : Int) < (n : Int) := by omega
      have HL' := Lib.hid (HL.out (by omega))
      clear ht HL HM bp
      go_wp2_with fail
      refine ⟨⟨j, t, o, by omega, rfl, rfl, HL', NB, XB, ZB, OB⟩, by simp [intOf]⟩
  ·obtain ⟨wo, rfl⟩ : ∃ wo : World, wo = wr := ⟨_, rfl⟩
   go_wp2_with fail
   go_loopw [7, 9] (fun s b wr => ∃ k r o : Nat, k ≤ 32 ∧ b = .int .i64 ((k : Int) - 1) ∧ s = .int .u64 (r : Int) ∧ Hid (Ov n R3 a2 k r o) ∧ Hid (Below w.heap.size w wr) ∧ Hid (wr.heap[w.heap.size]? = some (.cells #[.int .u64 (a0 : Int), .int .u64 (a1 : Int), .int .u64 (a2 : Int), .int .u64 (a3 : Int)] 110)) ∧ Hid (wr.heap[w.heap.size + 1]? = some (.cells #[.int .u64 0, .int .u64 0, .int .u64 0, .int .u64 0] 110)) ∧ Hid (wr.heap[w.heap.size + 1 + 1]? = some (.cells #[.int .u64 0, .int .u64 0, .int .u64 (o : Int), .int .u64 (O3 : Int)] 110))) (fun _ b _ => (intOf b + 1).toNat)
   case atStart => exact ⟨32, R3, 0, Nat.le_refl _, rfl, rfl, Lib.hid (ov_init (by omega) l2), NB, XB, ZB, OB⟩
   case round =>
    clear NB XB ZB OB
    obtain ⟨k, r, o, hk, rfl, rfl, OV, NB, XB, ZB, OB⟩ := hrel
    cases k with
    | zero =>
     rw [show (((0 : Nat) : Int) - 1) = -1 from rfl]
     obtain ⟨rfl, rfl⟩ := ov_done OV.out G2.out m2
     go_wp2_with fail
     go_roundw
     case rel => exact ⟨NB, XB, ZB, .inr (.inr (.inl ⟨rfl, rfl, OB⟩))⟩
     case measure => simp [intOf]
    | succ j =>
     have hj : j ≤ 31 := by omega
     rw [show (((j + 1 : Nat) : Int) - 1) = (j : Int) by omega]
     obtain ⟨hr, ho⟩ : r < n ∧ o < 4294967296 := ⟨by obtain ⟨_, _, h, _, _⟩ := OV.out; exact h, ov_lt OV.out hk⟩
     have ba := ov_and1 a2 j l2
     obtain ⟨c, hc⟩ : ∃ c, a2 / 2 ^ j % 2 = c := ⟨_, rfl⟩
     have c2 : c < 2 := by omega
     rw [hc] at ba
     have bo := ov_or1 r c (by omega) c2
     have HC := Lib.hid hc
     have HL := Lib.hid (fun h => ov_less OV.out (Nat.lt_succ_of_le hj) HC.out h)
     have HM := Lib.hid (fun h => ov_more OV.out (Nat.lt_succ_of_le hj) HC.out h)
     have bp := ov_or OV.out (Nat.lt_succ_of_le hj)
     obtain ⟨t, ht⟩ : ∃ t, 2 * r + c = t := ⟨_, rfl⟩
     rw [ht] at bo HL HM
     have pj : (2 : Int) ^ j ≤ 2147483648 := ov_pow hj
     have wj := ov_wrap hj
     have pp : (0 : Int) < (2 : Int) ^ j := ov_pos j
     have xx := blk_cell XB.out 2 _ rfl
     have oo := blk_cell OB.out 2 _ rfl
     have ol := blk_lt OB.out
     have of_ := blk_frozen OB.out 2
     have tb : t < 18446744073709551616 := by omega
     clear hc HC
     by_cases ct : n ≤ t
     ·have ct' : (n : Int) ≤ (t : Int) := by omega
      have HM' := Lib.hid (HM.out ct)
      obtain ⟨z, hz⟩ : ∃ z, t - n = z := ⟨_, rfl⟩
      obtain ⟨y, hy⟩ : ∃ y, o + 2 ^ j = y := ⟨_, rfl⟩
      rw [hz, hy] at HM'
      rw [hy] at bp
      have hy' := ov_lt HM'.out (by omega)
      have sz : (t : Int) - (n : Int) = (z : Int) := by omega
      have zb : z < 4611686018427387904 := by omega
      have HZ := Lib.hid hz
      clear hz hy ht HL HM
      go_wp2_with fail
      go_region
      go_wp2_with fail
      refine ⟨⟨j, z, y, by omega, rfl, rfl, HM', Lib.hid (Bset1 (below_drewN NB.out 1) e3.out 2 _), Lib.hid (blk_set_other XB.out e1.out 2 _), Lib.hid (blk_set_other ZB.out e2.out 2 _), Lib.hid (blk_set OB.out 2 (.int .u64 (y : Int)))⟩, by simp [intOf]⟩
     ·have ct' : (t : Int) < (n : Int) := by omega
      have HL' := Lib.hid (HL.out (by omega))
      clear ht HL HM bp
      go_wp2_with fail
      refine ⟨⟨j, t, o, by omega, rfl, rfl, HL', NB, XB, ZB, OB⟩, by simp [intOf]⟩
  ·obtain ⟨wo, rfl⟩ : ∃ wo : World, wo = wr := ⟨_, rfl⟩
   go_wp2_with fail
   go_loopw [7, 9] (fun s b wr => ∃ k r o : Nat, k ≤ 32 ∧ b = .int .i64 ((k : Int) - 1) ∧ s = .int .u64 (r : Int) ∧ Hid (Ov n R2 a1 k r o) ∧ Hid (Below w.heap.size w wr) ∧ Hid (wr.heap[w.heap.size]? = some (.cells #[.int .u64 (a0 : Int), .int .u64 (a1 : Int), .int .u64 (a2 : Int), .int .u64 (a3 : Int)] 110)) ∧ Hid (wr.heap[w.heap.size + 1]? = some (.cells #[.int .u64 0, .int .u64 0, .int .u64 0, .int .u64 0] 110)) ∧ Hid (wr.heap[w.heap.size + 1 + 1]? = some (.cells #[.int .u64 0, .int .u64 (o : Int), .int .u64 (O2 : Int), .int .u64 (O3 : Int)] 110))) (fun _ b _ => (intOf b + 1).toNat)
   case atStart => exact ⟨32, R2, 0, Nat.le_refl _, rfl, rfl, Lib.hid (ov_init (by omega) l1), NB, XB, ZB, OB⟩
   case round =>
    clear NB XB ZB OB
    obtain ⟨k, r, o, hk, rfl, rfl, OV, NB, XB, ZB, OB⟩ := hrel
    cases k with
    | zero =>
     rw [show (((0 : Nat) : Int) - 1) = -1 from rfl]
     obtain ⟨rfl, rfl⟩ := ov_done OV.out G1.out m1
     go_wp2_with fail
     go_roundw
     case rel => exact ⟨NB, XB, ZB, .inr (.inr (.inr (.inl ⟨rfl, rfl, OB⟩)))⟩
     case measure => simp [intOf]
    | succ j =>
     have hj : j ≤ 31 := by omega
     rw [show (((j + 1 : Nat) : Int) - 1) = (j : Int) by omega]
     obtain ⟨hr, ho⟩ : r < n ∧ o < 4294967296 := ⟨by obtain ⟨_, _, h, _, _⟩ := OV.out; exact h, ov_lt OV.out hk⟩
     have ba := ov_and1 a1 j l1
     obtain ⟨c, hc⟩ : ∃ c, a1 / 2 ^ j % 2 = c := ⟨_, rfl⟩
     have c2 : c < 2 := by omega
     rw [hc] at ba
     have bo := ov_or1 r c (by omega) c2
     have HC := Lib.hid hc
     have HL := Lib.hid (fun h => ov_less OV.out (Nat.lt_succ_of_le hj) HC.out h)
     have HM := Lib.hid (fun h => ov_more OV.out (Nat.lt_succ_of_le hj) HC.out h)
     have bp := ov_or OV.out (Nat.lt_succ_of_le hj)
     obtain ⟨t, ht⟩ : ∃ t, 2 * r + c = t := ⟨_, rfl⟩
     rw [ht] at bo HL HM
     have pj : (2 : Int) ^ j ≤ 2147483648 := ov_pow hj
     have wj := ov_wrap hj
     have pp : (0 : Int) < (2 : Int) ^ j := ov_pos j
     have xx := blk_cell XB.out 1 _ rfl
     have oo := blk_cell OB.out 1 _ rfl
     have ol := blk_lt OB.out
     have of_ := blk_frozen OB.out 1
     have tb : t < 18446744073709551616 := by omega
     clear hc HC
     by_cases ct : n ≤ t
     ·have ct' : (n : Int) ≤ (t : Int) := by omega
      have HM' := Lib.hid (HM.out ct)
      obtain ⟨z, hz⟩ : ∃ z, t - n = z := ⟨_, rfl⟩
      obtain ⟨y, hy⟩ : ∃ y, o + 2 ^ j = y := ⟨_, rfl⟩
      rw [hz, hy] at HM'
      rw [hy] at bp
      have hy' := ov_lt HM'.out (by omega)
      have sz : (t : Int) - (n : Int) = (z : Int) := by omega
      have zb : z < 4611686018427387904 := by omega
      have HZ := Lib.hid hz
      clear hz hy ht HL HM
      go_wp2_with fail
      go_region
      go_wp2_with fail
      refine ⟨⟨j, z, y, by omega, rfl, rfl, HM', Lib.hid (Bset1 (below_drewN NB.out 1) e3.out 1 _), Lib.hid (blk_set_other XB.out e1.out 1 _), Lib.hid (blk_set_other ZB.out e2.out 1 _), Lib.hid (blk_set OB.out 1 (.int .u64 (y : Int)))⟩, by simp [intOf]⟩
     ·have ct' : (t : Int) < (n : Int) := by omega
      have HL' := Lib.hid (HL.out (by omega))
      clear ht HL HM bp
      go_wp2_with fail
      refine ⟨⟨j, t, o, by omega, rfl, rfl, HL', NB, XB, ZB, OB⟩, by simp [intOf]⟩
  ·obtain ⟨wo, rfl⟩ : ∃ wo : World, wo = wr := ⟨_, rfl⟩
   go_wp2_with fail
   go_loopw [7, 9] (fun s b wr => ∃ k r o : Nat, k ≤ 32 ∧ b = .int .i64 ((k : Int) - 1) ∧ s = .int .u64 (r : Int) ∧ Hid (Ov n R1 a0 k r o) ∧ Hid (Below w.heap.size w wr) ∧ Hid (wr.heap[w.heap.size]? = some (.cells #[.int .u64 (a0 : Int), .int .u64 (a1 : Int), .int .u64 (a2 : Int), .int .u64 (a3 : Int)] 110)) ∧ Hid (wr.heap[w.heap.size + 1]? = some (.cells #[.int .u64 0, .int .u64 0, .int .u64 0, .int .u64 0] 110)) ∧ Hid (wr.heap[w.heap.size + 1 + 1]? = some (.cells #[.int .u64 (o : Int), .int .u64 (O1 : Int), .int .u64 (O2 : Int), .int .u64 (O3 : Int)] 110))) (fun _ b _ => (intOf b + 1).toNat)
   case atStart => exact ⟨32, R1, 0, Nat.le_refl _, rfl, rfl, Lib.hid (ov_init (by omega) l0), NB, XB, ZB, OB⟩
   case round =>
    clear NB XB ZB OB
    obtain ⟨k, r, o, hk, rfl, rfl, OV, NB, XB, ZB, OB⟩ := hrel
    cases k with
    | zero =>
     rw [show (((0 : Nat) : Int) - 1) = -1 from rfl]
     obtain ⟨rfl, rfl⟩ := ov_done OV.out G0.out m0
     go_wp2_with fail
     go_roundw
     case rel => exact ⟨NB, XB, ZB, .inr (.inr (.inr (.inr (⟨rfl, rfl, OB⟩))))⟩
     case measure => simp [intOf]
    | succ j =>
     have hj : j ≤ 31 := by omega
     rw [show (((j + 1 : Nat) : Int) - 1) = (j : Int) by omega]
     obtain ⟨hr, ho⟩ : r < n ∧ o < 4294967296 := ⟨by obtain ⟨_, _, h, _, _⟩ := OV.out; exact h, ov_lt OV.out hk⟩
     have ba := ov_and1 a0 j l0
     obtain ⟨c, hc⟩ : ∃ c, a0 / 2 ^ j % 2 = c := ⟨_, rfl⟩
     have c2 : c < 2 := by omega
     rw [hc] at ba
     have bo := ov_or1 r c (by omega) c2
     have HC := Lib.hid hc
     have HL := Lib.hid (fun h => ov_less OV.out (Nat.lt_succ_of_le hj) HC.out h)
     have HM := Lib.hid (fun h => ov_more OV.out (Nat.lt_succ_of_le hj) HC.out h)
     have bp := ov_or OV.out (Nat.lt_succ_of_le hj)
     obtain ⟨t, ht⟩ : ∃ t, 2 * r + c = t := ⟨_, rfl⟩
     rw [ht] at bo HL HM
     have pj : (2 : Int) ^ j ≤ 2147483648 := ov_pow hj
     have wj := ov_wrap hj
     have pp : (0 : Int) < (2 : Int) ^ j := ov_pos j
     have xx := blk_cell XB.out 0 _ rfl
     have oo := blk_cell OB.out 0 _ rfl
     have ol := blk_lt OB.out
     have of_ := blk_frozen OB.out 0
     have tb : t < 18446744073709551616 := by omega
     clear hc HC
     by_cases ct : n ≤ t
     ·have ct' : (n : Int) ≤ (t : Int) := by omega
      have HM' := Lib.hid (HM.out ct)
      obtain ⟨z, hz⟩ : ∃ z, t - n = z := ⟨_, rfl⟩
      obtain ⟨y, hy⟩ : ∃ y, o + 2 ^ j = y := ⟨_, rfl⟩
      rw [hz, hy] at HM'
      rw [hy] at bp
      have hy' := ov_lt HM'.out (by omega)
      have sz : (t : Int) - (n : Int) = (z : Int) := by omega
      have zb : z < 4611686018427387904 := by omega
      have HZ := Lib.hid hz
      clear hz hy ht HL HM
      go_wp2_with fail
      go_region
      go_wp2_with fail
      refine ⟨⟨j, z, y, by omega, rfl, rfl, HM', Lib.hid (Bset1 (below_drewN NB.out 1) e3.out 0 _), Lib.hid (blk_set_other XB.out e1.out 0 _), Lib.hid (blk_set_other ZB.out e2.out 0 _), Lib.hid (blk_set OB.out 0 (.int .u64 (y : Int)))⟩, by simp [intOf]⟩
     ·have ct' : (t : Int) < (n : Int) := by omega
      have HL' := Lib.hid (HL.out (by omega))
      clear ht HL HM bp
      go_wp2_with fail
      refine ⟨⟨j, t, o, by omega, rfl, rfl, HL', NB, XB, ZB, OB⟩, by simp [intOf]⟩
  ·have z0 := blk_cell OB.out 0 _ rfl
   have z1 := blk_cell OB.out 1 _ rfl
   have z2 := blk_cell OB.out 2 _ rfl
   have z3 := blk_cell OB.out 3 _ rfl
   have y0 := blk_cell ZB.out 0 _ rfl
   have f0 := blk_frozen ZB.out 0
   have y1 := blk_cell ZB.out 1 _ rfl
   have f1 := blk_frozen ZB.out 1
   have y2 := blk_cell ZB.out 2 _ rfl
   have f2 := blk_frozen ZB.out 2
   have y3 := blk_cell ZB.out 3 _ rfl
   have f3 := blk_frozen ZB.out 3
   have gl := blk_lt ZB.out
   have ol := blk_lt OB.out
   go_wp2_with fail
   have Z := blk_set (blk_set (blk_set (blk_set ZB.out 0 (.int .u64 (O0 : Int))) 1 (.int .u64 (O1 : Int))) 2 (.int .u64 (O2 : Int))) 3 (.int .u64 (O3 : Int))
   have g0 := blk_cell Z 0 _ rfl
   have g1 := blk_cell Z 1 _ rfl
   have g2 := blk_cell Z 2 _ rfl
   have g3 := blk_cell Z 3 _ rfl
   refine bodyPost_ret (v := .tuple #[Bv O0 O1 O2 O3, .int .u64 (R0 : Int)]) (by simp [results, Try.results78, go_sem, g0, g1, g2, g3]) rfl ⟨by rw [FIN.out.1, FIN.out.2], Bset1 (Bset1 (Bset1 (Bset1 NB.out e4.out _ _) e4.out _ _) e4.out _ _) e4.out _ _⟩
end Go.Proofs.Ytbbnkclajpaghaa
namespace Go.Proofs.Ytbbnkclajpaghaa
open Go
set_option linter.unusedVariables false
set_option maxRecDepth 100000
section
variable {P : Program} {ops : Array Oper} {Q : Exit → Act → World → Prop} {md : Region.Mode} {S : Nat → World → Prop}
def wpAnyI (P : Program) (md : Region.Mode) (ops : Array Oper) (Q : Exit → Act → World → Prop) (S : Nat → World → Prop) : Nat → Array Bool → Act → World → Prop
 | 0, done, a, w => Region.ready md ops done = [] ∧ Q .normal a w
 | f + 1, done, a, w => (Region.ready md ops done = [] → Q .normal a w) ∧
  ∀ i ∈ Region.ready md ops done, wpOp P ops Q i (fun a' w' => (∀ k, Region.waitsFor md ops i k = false → S k w → S k w') ∧ wpAnyI P md ops Q S f (done.setIfInBounds i true) a' w') a w
theorem wpAny_of_I : ∀ (f : Nat) (done : Array Bool) (a : Act) (w : World), wpAnyI P md ops Q S f done a w → wpAny P md ops Q f done a w
 | 0, _, _, _, h => h
 | f + 1, _, _, _, h => ⟨h.1, fun i hi => wpOp_mono (fun a' w' h' => wpAny_of_I f _ a' w' h'.2) (h.2 i hi)⟩
theorem not_waits {i j : Nat} {done : Array Bool} (hj : j ∈ Region.ready md ops done) (hi : i ∈ Region.ready md ops done) : Region.waitsFor md ops j i = false := by
 cases h : Region.waitsFor md ops j i with
 | false => rfl
 | true =>
  obtain ⟨oj, hoj, e, he, hb, hon⟩ := Region.waitsFor_spec h
  obtain ⟨_, o', ho', hall⟩ := mem_ready.1 hj
  have : o' = oj := Option.some.inj (ho'.symm.trans hoj)
  subst this
  have h1 := hall e he hb
  have h0 := getD_both (mem_ready.1 hi).1
  rw [hon, h0] at h1
  cases h1
theorem edge_ne {i j : Nat} {oj : Oper} {done : Array Bool} (hoj : ops[j]? = some oj) (hj : j ∈ Region.ready md ops done) (hi : i ∈ Region.ready md ops done) : ∀ e ∈ oj.after, Region.binds md e = true → e.on ≠ i := fun e he hb heq => by
 obtain ⟨_, o', ho', hall⟩ := mem_ready.1 hj
 have : o' = oj := Option.some.inj (ho'.symm.trans hoj)
 subst this
 have h1 := hall e he hb
 rw [heq, getD_both (mem_ready.1 hi).1] at h1
 cases h1
theorem wpAnyI_first {i : Nat} {oi : Oper} {v : Value} (hi : ops[i]? = some oi) (hsel : ∀ (j : Nat) (o : Oper) cs b, ops[j]? = some o → o.op ≠ .select cs b)
  (hQ : ∀ c a w, Q (.panic c) (a.put oi.dst v) w → Q (.panic c) a w) :
  ∀ (f : Nat) (done : Array Bool) (a : Act) (w : World),
   (∀ j oj, ops[j]? = some oj → j ≠ i → done.getD j true = false → (∀ e ∈ oj.after, Region.binds md e = true → e.on ≠ i) → oi.apart ops oj = true) →
   i ∈ Region.ready md ops done → YieldsIf P ops (S i) oi v a → S i w →
   wpAnyI P md ops Q S f (done.setIfInBounds i true) (a.put oi.dst v) w → wpAnyI P md ops Q S (f + 1) done a w := by
 intro f
 induction f with
 | zero =>
  intro done a w _ hr hy hS H
  refine ⟨fun h => (by rw [h] at hr; cases hr), fun j hj => ?_⟩
  by_cases e : j = i
  ·subst e; exact hy.wpOp hi hS ⟨fun _ _ h => h, H⟩
  ·have := ready_mono hj e
   rw [H.1] at this
   cases this
 | succ f ih =>
  intro done a w hfree hr hy hS H
  refine ⟨fun h => (by rw [h] at hr; cases hr), fun j hj => ?_⟩
  by_cases e : j = i
  ·subst e; exact hy.wpOp hi hS ⟨fun _ _ h => h, H⟩
  ·have h1 := H.2 j (ready_mono hj e)
   obtain ⟨hjun, oj, hoj, _⟩ := mem_ready.1 hj
   have nw := not_waits hj hr
   have h2 := wpOp_putIf hoj (hfree j oj hoj e hjun (edge_ne hoj hj hr)) (fun cs b => hsel i oi cs b hi) (fun cs b => hsel j oj cs b hoj) hQ hy h1
   have hfree' : ∀ k ok, ops[k]? = some ok → k ≠ i → (done.setIfInBounds j true).getD k true = false → (∀ e ∈ ok.after, Region.binds md e = true → e.on ≠ i) → oi.apart ops ok = true := fun k ok hk hki hun hno => by
    refine hfree k ok hk hki ?_ hno
    by_cases hjk : j = k
    ·subst hjk; exact hjun
    ·rw [getD_set_ne true hjk] at hun; exact hun
   refine wpOp_mono (fun a' w' h3 => ⟨h3.2.1, ?_⟩) h2
   have r2 := ready_mono hr (Ne.symm e)
   refine ih (done.setIfInBounds j true) a' w' hfree' r2 h3.1 (h3.2.1 i nw hS) ?_
   rw [Array.setIfInBounds_comm _ _ e]
   exact h3.2.2
theorem take_I {oi : Oper} {f : Nat} {done : Array Bool} {a : Act} {w : World} (i : Nat) (v : Value) (d : Option Nat) (hi : ops[i]? = some oi) (hs : Region.noSelect ops = true) (hf : Region.free md ops done i = true)
  (hr : (Region.ready md ops done).contains i = true) (hd : oi.dst = d) (hQ : ∀ c a w, Q (.panic c) (a.put oi.dst v) w → Q (.panic c) a w) (hy : YieldsIf P ops (S i) oi v a) (hS : S i w)
  (h : wpAnyI P md ops Q S f (done.setIfInBounds i true) (a.put d v) w) : wpAnyI P md ops Q S (f + 1) done a w :=
 wpAnyI_first hi (Region.noSelect_spec hs) hQ f done a w (Region.free_spec hi hf) (by simpa using hr) hy hS (by rw [hd]; exact h)
theorem only_I {o : Oper} {f : Nat} {done : Array Bool} {a : Act} {w : World} (i : Nat) (hr : Region.ready md ops done = [i]) (ho : ops[i]? = some o)
  (h : ∀ K' : Act → World → Prop, Shut (∀ a' w', (∀ k, Region.waitsFor md ops i k = false → S k w → S k w') → wpAnyI P md ops Q S f (done.setIfInBounds i true) a' w' → K' a' w') → if Region.wanted o (yielded ops a.tmps) = true then Oper.wp P o a w K' Q else K' (a.put o.dst undef) w) :
  wpAnyI P md ops Q S (f + 1) done a w :=
 ⟨fun h0 => (by rw [hr] at h0; cases h0), fun j hj => by
  rw [hr] at hj
  have e : j = i := by simpa using hj
  subst e
  exact wpOp_step ho (fun K' hK => h K' (fun a' w' h1 h2 => hK a' w' ⟨h1, h2⟩))⟩
theorem done_I {done : Array Bool} {a : Act} {w : World} (hr : Region.ready md ops done = []) (h : Q .normal a w) : ∀ f, wpAnyI P md ops Q S f done a w
 | 0 => ⟨hr, h⟩
 | _ + 1 => ⟨fun _ => h, by rw [hr]; simp⟩
theorem region_I {id : Nat} {a : Act} {w : World} (hm : P.follows .mixedOrders = true) (h : wpAnyI P .any ops Q S ops.size (Array.replicate ops.size false) a w.drew) : (Code.region id ops true).wp P Q a w :=
 wp_region_any hm (wpAny_of_I _ _ _ _ h)
end
theorem zA {α : Type} (l : List α) (i : Nat) (a : α) : l.toArray.setIfInBounds i a = (l.set i a).toArray := List.setIfInBounds_toArray ..
theorem zB {α : Type} {a b : α} {l : List α} : (a :: l).set 0 b = b :: l := rfl
theorem zC {α : Type} {a b : α} {l : List α} {n : Nat} : (a :: l).set (n + 1) b = a :: l.set n b := rfl
end Go.Proofs.Ytbbnkclajpaghaa
