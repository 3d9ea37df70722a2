/- Several texts in one. -/
import Derived.Test.YtfangplfbbgphaaGreatDoorMF04
namespace Go.Proofs.YtfangplfbbgphaaGreatDoor
open Go.ChangeShapes Go.WideShapes Go.ChangeAt Go.RowKit
set_option linter.unusedVariables false
set_option maxRecDepth 100000
attribute [local go_sem ↓] Go.wp_at_zero Go.wp_at_succ
set_option maxRecDepth 100000 in
set_option maxHeartbeats 8000000 in
theorem refSum_calls (x y : Nat) (w : World) (hx : sm4 x) (hy : sm4 y) (hxy : sm4 (x + y)) :
  Calls Tryz.prog 119 #[Dv x, Dv y] w fun e w' => e = .returned (Dv (x + y)) ∧ Below w.heap.size w w' := by
 have FX : Hid (∀ d0 d1 d2 d3 : Nat, d0 < 4294967296 → d1 < 4294967296 → d2 < 4294967296 → d3 < 4294967296 → x + y = bigN d0 d1 d2 d3 → Bv d0 d1 d2 d3 = Dv (x + y)) := Lib.hid (fun d0 d1 d2 d3 h0 h1 h2 h3 h => dv_of h0 h1 h2 h3 h)
 unfold sm4 at hxy
 obtain ⟨u, v, e1, e2, e3⟩ := dg_split hx
 obtain ⟨s, t, f1, f2, f3⟩ := dg_split hy
 have l0 := dg_lt x 0
 have l1 := dg_lt x 1
 have l2 := dg_lt x 2
 have l3 := dg_lt x 3
 have m0 := dg_lt y 0
 have m1 := dg_lt y 1
 have m2 := dg_lt y 2
 have m3 := dg_lt y 3
 generalize hres : Dv (x + y) = res at *
 unfold Dv
 generalize dg x 0 = a0 at *
 generalize dg x 1 = a1 at *
 generalize dg x 2 = a2 at *
 generalize dg x 3 = a3 at *
 generalize dg y 0 = b0 at *
 generalize dg y 1 = b1 at *
 generalize dg y 2 = b2 at *
 generalize dg y 3 = b3 at *
 obtain ⟨t0, ht0⟩ : ∃ z, z = a0 + b0 := ⟨_, rfl⟩
 obtain ⟨d0, hd0⟩ : ∃ z, z = t0 % 4294967296 := ⟨_, rfl⟩
 obtain ⟨k0, hk0⟩ : ∃ z, z = t0 / 4294967296 := ⟨_, rfl⟩
 obtain ⟨p1, hp1⟩ : ∃ z, z = a1 + b1 := ⟨_, rfl⟩
 obtain ⟨t1, ht1⟩ : ∃ z, z = k0 + p1 := ⟨_, rfl⟩
 obtain ⟨d1, hd1⟩ : ∃ z, z = t1 % 4294967296 := ⟨_, rfl⟩
 obtain ⟨k1, hk1⟩ : ∃ z, z = t1 / 4294967296 := ⟨_, rfl⟩
 obtain ⟨p2, hp2⟩ : ∃ z, z = a2 + b2 := ⟨_, rfl⟩
 obtain ⟨t2, ht2⟩ : ∃ z, z = k1 + p2 := ⟨_, rfl⟩
 obtain ⟨d2, hd2⟩ : ∃ z, z = t2 % 4294967296 := ⟨_, rfl⟩
 obtain ⟨k2, hk2⟩ : ∃ z, z = t2 / 4294967296 := ⟨_, rfl⟩
 obtain ⟨p3, hp3⟩ : ∃ z, z = a3 + b3 := ⟨_, rfl⟩
 obtain ⟨t3, ht3⟩ : ∃ z, z = k2 + p3 := ⟨_, rfl⟩
 obtain ⟨d3, hd3⟩ : ∃ z, z = t3 % 4294967296 := ⟨_, rfl⟩
 obtain ⟨k3, hk3⟩ : ∃ z, z = t3 / 4294967296 := ⟨_, rfl⟩
 have s2 : v + t + k1 = d2 + 4294967296 * t3 := by omega
 have s1 : u + s + k0 = d1 + 4294967296 * (d2 + 4294967296 * t3) := by omega
 have s0 : x + y = d0 + 4294967296 * (d1 + 4294967296 * (d2 + 4294967296 * t3)) := by omega
 have q0 : (x + y) / 4294967296 = d1 + 4294967296 * (d2 + 4294967296 * t3) := by omega
 have q1 : (d1 + 4294967296 * (d2 + 4294967296 * t3)) / 4294967296 = d2 + 4294967296 * t3 := by omega
 have q2 : (d2 + 4294967296 * t3) / 4294967296 = t3 := by omega
 rw [q0, q1, q2] at hxy
 have e33 : d3 = t3 := by omega
 have FIN : Hid (Bv d0 d1 d2 d3 = res) := Lib.hid (FX.out d0 d1 d2 d3 (by omega) (by omega) (by omega) (by omega) (by unfold bigN; rw [e33]; exact s0))
 have r0 : bits .and .u64 ((a0 : Int) + (b0 : Int)) 4294967295 = (d0 : Int) := by rw [show ((a0 : Int) + (b0 : Int)) = (t0 : Int) by omega, hd0]; exact and32 t0 (by omega)
 have r0' : ((a0 : Int) + (b0 : Int)) / 4294967296 = (k0 : Int) := by omega
 have n1 : (a1 : Int) + (b1 : Int) = (p1 : Int) := by omega
 have w1 : (k0 : Int) + (p1 : Int) = (t1 : Int) := by omega
 have r1 : bits .and .u64 (t1 : Int) 4294967295 = (d1 : Int) := by rw [hd1]; exact and32 t1 (by omega)
 have r1' : (t1 : Int) / 4294967296 = (k1 : Int) := by omega
 have c1 : t1 < 18446744073709551616 := by omega
 have cp1 : p1 < 18446744073709551616 := by omega
 have n2 : (a2 : Int) + (b2 : Int) = (p2 : Int) := by omega
 have w2 : (k1 : Int) + (p2 : Int) = (t2 : Int) := by omega
 have r2 : bits .and .u64 (t2 : Int) 4294967295 = (d2 : Int) := by rw [hd2]; exact and32 t2 (by omega)
 have r2' : (t2 : Int) / 4294967296 = (k2 : Int) := by omega
 have c2 : t2 < 18446744073709551616 := by omega
 have cp2 : p2 < 18446744073709551616 := by omega
 have n3 : (a3 : Int) + (b3 : Int) = (p3 : Int) := by omega
 have w3 : (k2 : Int) + (p3 : Int) = (t3 : Int) := by omega
 have r3 : bits .and .u64 (t3 : Int) 4294967295 = (d3 : Int) := by rw [hd3]; exact and32 t3 (by omega)
 have r3' : (t3 : Int) / 4294967296 = (k3 : Int) := by omega
 have c3 : t3 < 18446744073709551616 := by omega
 have cp3 : p3 < 18446744073709551616 := by omega
 have n0 : (a0 : Int) + (b0 : Int) = (t0 : Int) := by omega
 rw [n0] at r0 r0'
 have c0 : t0 < 18446744073709551616 := by omega
 clear e1 e2 e3 f1 f2 f3 s0 s1 s2 q0 q1 q2 hxy e33 FX ht0 hd0 hk0 hp1 ht1 hd1 hk1 hp2 ht2 hd2 hk2 hp3 ht3 hd3 hk3 hres
 go_enter Tryz.func119, Tryz.ntmps119
 go_wp2_with fail
 have XB : Hid ((((w.alloc (.cells #[.int .u64 (a0 : Int), .int .u64 (a1 : Int), .int .u64 (a2 : Int), .int .u64 (a3 : Int)] 156)).alloc (.cells #[.int .u64 (b0 : Int), .int .u64 (b1 : Int), .int .u64 (b2 : Int), .int .u64 (b3 : Int)] 156)).alloc (.cells #[.int .u64 0, .int .u64 0, .int .u64 0, .int .u64 0] 156)).heap[w.heap.size]? = some (.cells #[.int .u64 (a0 : Int), .int .u64 (a1 : Int), .int .u64 (a2 : Int), .int .u64 (a3 : Int)] 156)) := Lib.hid (blk_alloc (blk_alloc (blk_new w _) _) _)
 have YB := Lib.hid (blk3b w (.cells #[.int .u64 (a0 : Int), .int .u64 (a1 : Int), .int .u64 (a2 : Int), .int .u64 (a3 : Int)] 156) (.cells #[.int .u64 (b0 : Int), .int .u64 (b1 : Int), .int .u64 (b2 : Int), .int .u64 (b3 : Int)] 156) (.cells #[.int .u64 0, .int .u64 0, .int .u64 0, .int .u64 0] 156))
 have ZB := Lib.hid (blk3c w (.cells #[.int .u64 (a0 : Int), .int .u64 (a1 : Int), .int .u64 (a2 : Int), .int .u64 (a3 : Int)] 156) (.cells #[.int .u64 (b0 : Int), .int .u64 (b1 : Int), .int .u64 (b2 : Int), .int .u64 (b3 : Int)] 156) (.cells #[.int .u64 0, .int .u64 0, .int .u64 0, .int .u64 0] 156))
 have NB : Hid (Below w.heap.size w (((w.alloc (.cells #[.int .u64 (a0 : Int), .int .u64 (a1 : Int), .int .u64 (a2 : Int), .int .u64 (a3 : Int)] 156)).alloc (.cells #[.int .u64 (b0 : Int), .int .u64 (b1 : Int), .int .u64 (b2 : Int), .int .u64 (b3 : Int)] 156)).alloc (.cells #[.int .u64 0, .int .u64 0, .int .u64 0, .int .u64 0] 156))) := Lib.hid (Bal (Bal (Bal (Below.refl _ _) _) _) _)
 generalize ((w.alloc (.cells #[.int .u64 (a0 : Int), .int .u64 (a1 : Int), .int .u64 (a2 : Int), .int .u64 (a3 : Int)] 156)).alloc (.cells #[.int .u64 (b0 : Int), .int .u64 (b1 : Int), .int .u64 (b2 : Int), .int .u64 (b3 : Int)] 156)).alloc (.cells #[.int .u64 0, .int .u64 0, .int .u64 0, .int .u64 0] 156) = W at *
 go_loopw [5, 6] (fun c i wr => Hid (Below w.heap.size w wr) ∧ Hid (wr.heap[w.heap.size + 1]? = some (.cells #[.int .u64 (b0 : Int), .int .u64 (b1 : Int), .int .u64 (b2 : Int), .int .u64 (b3 : Int)] 156)) ∧ Hid (wr.heap[w.heap.size + 1 + 1]? = some (.cells #[.int .u64 0, .int .u64 0, .int .u64 0, .int .u64 0] 156)) ∧ ((i = .int .i64 0 ∧ c = .int .u64 0 ∧ Hid (wr.heap[w.heap.size]? = some (.cells #[.int .u64 (a0 : Int), .int .u64 (a1 : Int), .int .u64 (a2 : Int), .int .u64 (a3 : Int)] 156))) ∨ (i = .int .i64 1 ∧ c = .int .u64 (k0 : Int) ∧ Hid (wr.heap[w.heap.size]? = some (.cells #[.int .u64 (d0 : Int), .int .u64 (a1 : Int), .int .u64 (a2 : Int), .int .u64 (a3 : Int)] 156))) ∨ (i = .int .i64 2 ∧ c = .int .u64 (k1 : Int) ∧ Hid (wr.heap[w.heap.size]? = some (.cells #[.int .u64 (d0 : Int), .int .u64 (d1 : Int), .int .u64 (a2 : Int), .int .u64 (a3 : Int)] 156))) ∨ (i = .int .i64 3 ∧ c = .int .u64 (k2 : Int) ∧ Hid (wr.heap[w.heap.size]? = some (.cells #[.int .u64 (d0 : Int), .int .u64 (d1 : Int), .int .u64 (d2 : Int), .int .u64 (a3 : Int)] 156))) ∨ (i = .int .i64 4 ∧ c = .int .u64 (k3 : Int) ∧ Hid (wr.heap[w.heap.size]? = some (.cells #[.int .u64 (d0 : Int), .int .u64 (d1 : Int), .int .u64 (d2 : Int), .int .u64 (d3 : Int)] 156))))) (fun _ i _ => 4 - (intOf i).toNat)
 case atStart => exact ⟨NB, YB, ZB, .inl ⟨rfl, rfl, XB⟩⟩
 case round =>
  clear NB YB ZB XB
  obtain ⟨NB, YB, ZB, (⟨rfl, rfl, XB⟩ | ⟨rfl, rfl, XB⟩ | ⟨rfl, rfl, XB⟩ | ⟨rfl, rfl, XB⟩ | ⟨rfl, rfl, XB⟩)⟩ := hrel
  ·have ox := blk_cell XB.out 0 _ rfl
   have oy := blk_cell YB.out 0 _ rfl
   have ol := blk_lt XB.out
   have of_ := blk_frozen XB.out 0
   go_wp2_with fail
   go_quiet (fail)
   go_wp2_with fail
   refine ⟨⟨Lib.hid (Bset1 (below_drewN NB.out nq) (Nat.le_refl _) 0 _), Lib.hid (blk_set_other YB.out (by omega) 0 _), Lib.hid (blk_set_other ZB.out (by omega) 0 _), .inr (.inl ⟨rfl, rfl, Lib.hid (blk_set XB.out 0 (.int .u64 (d0 : Int)))⟩)⟩, by simp [intOf]⟩
  ·have ox := blk_cell XB.out 1 _ rfl
   have oy := blk_cell YB.out 1 _ rfl
   have ol := blk_lt XB.out
   have of_ := blk_frozen XB.out 1
   go_wp2_with fail
   go_quiet (fail)
   go_wp2_with fail
   refine ⟨⟨Lib.hid (Bset1 (below_drewN NB.out nq) (Nat.le_refl _) 1 _), Lib.hid (blk_set_other YB.out (by omega) 1 _), Lib.hid (blk_set_other ZB.out (by omega) 1 _), .inr (.inr (.inl ⟨rfl, rfl, Lib.hid (blk_set XB.out 1 (.int .u64 (d1 : Int)))⟩))⟩, by simp [intOf]⟩
  ·have ox := blk_cell XB.out 2 _ rfl
   have oy := blk_cell YB.out 2 _ rfl
   have ol := blk_lt XB.out
   have of_ := blk_frozen XB.out 2
   go_wp2_with fail
   go_quiet (fail)
   go_wp2_with fail
   refine ⟨⟨Lib.hid (Bset1 (below_drewN NB.out nq) (Nat.le_refl _) 2 _), Lib.hid (blk_set_other YB.out (by omega) 2 _), Lib.hid (blk_set_other ZB.out (by omega) 2 _), .inr (.inr (.inr (.inl ⟨rfl, rfl, Lib.hid (blk_set XB.out 2 (.int .u64 (d2 : Int)))⟩)))⟩, by simp [intOf]⟩
  ·have ox := blk_cell XB.out 3 _ rfl
   have oy := blk_cell YB.out 3 _ rfl
   have ol := blk_lt XB.out
   have of_ := blk_frozen XB.out 3
   go_wp2_with fail
   go_quiet (fail)
   go_wp2_with fail
   refine ⟨⟨Lib.hid (Bset1 (below_drewN NB.out nq) (Nat.le_refl _) 3 _), Lib.hid (blk_set_other YB.out (by omega) 3 _), Lib.hid (blk_set_other ZB.out (by omega) 3 _), .inr (.inr (.inr (.inr (⟨rfl, rfl, Lib.hid (blk_set XB.out 3 (.int .u64 (d3 : Int)))⟩))))⟩, by simp [intOf]⟩
  ·have z0 := blk_cell XB.out 0 _ rfl
   have z1 := blk_cell XB.out 1 _ rfl
   have z2 := blk_cell XB.out 2 _ rfl
   have z3 := blk_cell XB.out 3 _ rfl
   have y0 := blk_cell ZB.out 0 _ rfl
   have f0 := blk_frozen ZB.out 0
   have y1 := blk_cell ZB.out 1 _ rfl
   have f1 := blk_frozen ZB.out 1
   have y2 := blk_cell ZB.out 2 _ rfl
   have f2 := blk_frozen ZB.out 2
   have y3 := blk_cell ZB.out 3 _ rfl
   have f3 := blk_frozen ZB.out 3
   have gl := blk_lt ZB.out
   have ol := blk_lt XB.out
   go_wp2_with fail
   have Z := blk_set (blk_set (blk_set (blk_set ZB.out 0 (.int .u64 (d0 : Int))) 1 (.int .u64 (d1 : Int))) 2 (.int .u64 (d2 : Int))) 3 (.int .u64 (d3 : Int))
   have g0 := blk_cell Z 0 _ rfl
   have g1 := blk_cell Z 1 _ rfl
   have g2 := blk_cell Z 2 _ rfl
   have g3 := blk_cell Z 3 _ rfl
   refine bodyPost_ret (v := Bv d0 d1 d2 d3) (by simp [results, Tryz.results119, go_sem, g0, g1, g2, g3]) rfl ⟨by rw [FIN.out], Bset1 (Bset1 (Bset1 (Bset1 NB.out (by omega) _ _) (by omega) _ _) (by omega) _ _) (by omega) _ _⟩
set_option maxRecDepth 100000 in
set_option maxHeartbeats 8000000 in
theorem refRest_calls (x y : Nat) (w : World) (hx : sm4 x) (hy : sm4 y) (hyx : y ≤ x) :
  Calls Tryz.prog 121 #[Dv x, Dv y] w fun e w' => e = .returned (Dv (x - y)) ∧ Below w.heap.size w w' := by
 have FX : Hid (∀ d0 d1 d2 d3 : Nat, d0 < 4294967296 → d1 < 4294967296 → d2 < 4294967296 → d3 < 4294967296 → x - y = bigN d0 d1 d2 d3 → Bv d0 d1 d2 d3 = Dv (x - y)) := Lib.hid (fun d0 d1 d2 d3 h0 h1 h2 h3 h => dv_of h0 h1 h2 h3 h)
 obtain ⟨u, v, e1, e2, e3⟩ := dg_split hx
 obtain ⟨s, t, f1, f2, f3⟩ := dg_split hy
 have l0 := dg_lt x 0
 have l1 := dg_lt x 1
 have l2 := dg_lt x 2
 have l3 := dg_lt x 3
 have m0 := dg_lt y 0
 have m1 := dg_lt y 1
 have m2 := dg_lt y 2
 have m3 := dg_lt y 3
 generalize hres : Dv (x - y) = res at *
 unfold Dv
 generalize dg x 0 = a0 at *
 generalize dg x 1 = a1 at *
 generalize dg x 2 = a2 at *
 generalize dg x 3 = a3 at *
 generalize dg y 0 = b0 at *
 generalize dg y 1 = b1 at *
 generalize dg y 2 = b2 at *
 generalize dg y 3 = b3 at *
 obtain ⟨h0, hh0⟩ : ∃ z, z = a0 + 4294967295 := ⟨_, rfl⟩
 obtain ⟨g0, hg0⟩ : ∃ z, z = h0 + 1 := ⟨_, rfl⟩
 obtain ⟨e0', he0⟩ : ∃ z, z + b0 = g0 := ⟨g0 - b0, by omega⟩
 obtain ⟨t0, ht0⟩ : ∃ z, z = e0' := ⟨_, rfl⟩
 obtain ⟨d0, hd0⟩ : ∃ z, z = t0 % 4294967296 := ⟨_, rfl⟩
 obtain ⟨s0, hs0⟩ : ∃ z, z = t0 / 4294967296 := ⟨_, rfl⟩
 obtain ⟨o0, ho0⟩ : ∃ z, z + s0 = 1 := ⟨1 - s0, by omega⟩
 obtain ⟨h1, hh1⟩ : ∃ z, z = a1 + 4294967295 := ⟨_, rfl⟩
 obtain ⟨g1, hg1⟩ : ∃ z, z = h1 + 1 := ⟨_, rfl⟩
 obtain ⟨e1', he1⟩ : ∃ z, z + b1 = g1 := ⟨g1 - b1, by omega⟩
 obtain ⟨t1, ht1⟩ : ∃ z, z + o0 = e1' := ⟨e1' - o0, by omega⟩
 obtain ⟨d1, hd1⟩ : ∃ z, z = t1 % 4294967296 := ⟨_, rfl⟩
 obtain ⟨s1, hs1⟩ : ∃ z, z = t1 / 4294967296 := ⟨_, rfl⟩
 obtain ⟨o1, ho1⟩ : ∃ z, z + s1 = 1 := ⟨1 - s1, by omega⟩
 obtain ⟨h2, hh2⟩ : ∃ z, z = a2 + 4294967295 := ⟨_, rfl⟩
 obtain ⟨g2, hg2⟩ : ∃ z, z = h2 + 1 := ⟨_, rfl⟩
 obtain ⟨e2', he2⟩ : ∃ z, z + b2 = g2 := ⟨g2 - b2, by omega⟩
 obtain ⟨t2, ht2⟩ : ∃ z, z + o1 = e2' := ⟨e2' - o1, by omega⟩
 obtain ⟨d2, hd2⟩ : ∃ z, z = t2 % 4294967296 := ⟨_, rfl⟩
 obtain ⟨s2, hs2⟩ : ∃ z, z = t2 / 4294967296 := ⟨_, rfl⟩
 obtain ⟨o2, ho2⟩ : ∃ z, z + s2 = 1 := ⟨1 - s2, by omega⟩
 obtain ⟨h3, hh3⟩ : ∃ z, z = a3 + 4294967295 := ⟨_, rfl⟩
 obtain ⟨g3, hg3⟩ : ∃ z, z = h3 + 1 := ⟨_, rfl⟩
 obtain ⟨e3', he3⟩ : ∃ z, z + b3 = g3 := ⟨g3 - b3, by omega⟩
 obtain ⟨t3, ht3⟩ : ∃ z, z + o2 = e3' := ⟨e3' - o2, by omega⟩
 obtain ⟨d3, hd3⟩ : ∃ z, z = t3 % 4294967296 := ⟨_, rfl⟩
 obtain ⟨s3, hs3⟩ : ∃ z, z = t3 / 4294967296 := ⟨_, rfl⟩
 obtain ⟨o3, ho3⟩ : ∃ z, z + s3 = 1 := ⟨1 - s3, by omega⟩
 have o30 : o3 = 0 := by
  by_cases e : o3 = 0
  ·exact e
  ·exfalso
   have k3 : a3 + 1 ≤ b3 + o2 := by omega
   have k2 : o2 = 1 → a2 + 1 ≤ b2 + o1 := fun h => by omega
   have k1 : o1 = 1 → a1 + 1 ≤ b1 + o0 := fun h => by omega
   have k0 : o0 = 1 → a0 + 1 ≤ b0 := fun h => by omega
   have v2 : v + 1 ≤ t + o1 := by omega
   have v1 : u + 1 ≤ s + o0 := by omega
   have v0 : x + 1 ≤ y := by omega
   omega
 have q2' : v = t + o1 + d2 + 4294967296 * d3 := by omega
 have q1' : u = s + o0 + (d1 + 4294967296 * (d2 + 4294967296 * d3)) := by omega
 have q0' : x = y + (d0 + 4294967296 * (d1 + 4294967296 * (d2 + 4294967296 * d3))) := by omega
 have FIN : Hid (Bv d0 d1 d2 d3 = res) := Lib.hid (FX.out d0 d1 d2 d3 (by omega) (by omega) (by omega) (by omega) (by unfold bigN; omega))
 have n0 : (a0 : Int) + 4294967295 = (h0 : Int) := by omega
 have nn0 : (h0 : Int) + 1 = (g0 : Int) := by omega
 have ne0 : (g0 : Int) - (b0 : Int) = (e0' : Int) := by omega
 have nt0 : (e0' : Int) = (t0 : Int) := by omega
 have r0 : bits .and .u64 (t0 : Int) 4294967295 = (d0 : Int) := by rw [hd0]; exact and32 t0 (by omega)
 have r0' : (t0 : Int) / 4294967296 = (s0 : Int) := by omega
 have ro0 : (1 : Int) - (s0 : Int) = (o0 : Int) := by omega
 have c0 : t0 < 18446744073709551616 := by omega
 have ch0 : h0 < 18446744073709551616 := by omega
 have cg0 : g0 < 18446744073709551616 := by omega
 have ce0 : e0' < 18446744073709551616 := by omega
 have n1 : (a1 : Int) + 4294967295 = (h1 : Int) := by omega
 have nn1 : (h1 : Int) + 1 = (g1 : Int) := by omega
 have ne1 : (g1 : Int) - (b1 : Int) = (e1' : Int) := by omega
 have nt1 : (e1' : Int) - (o0 : Int) = (t1 : Int) := by omega
 have r1 : bits .and .u64 (t1 : Int) 4294967295 = (d1 : Int) := by rw [hd1]; exact and32 t1 (by omega)
 have r1' : (t1 : Int) / 4294967296 = (s1 : Int) := by omega
 have ro1 : (1 : Int) - (s1 : Int) = (o1 : Int) := by omega
 have c1 : t1 < 18446744073709551616 := by omega
 have ch1 : h1 < 18446744073709551616 := by omega
 have cg1 : g1 < 18446744073709551616 := by omega
 have ce1 : e1' < 18446744073709551616 := by omega
 have n2 : (a2 : Int) + 4294967295 = (h2 : Int) := by omega
 have nn2 : (h2 : Int) + 1 = (g2 : Int) := by omega
 have ne2 : (g2 : Int) - (b2 : Int) = (e2' : Int) := by omega
 have nt2 : (e2' : Int) - (o1 : Int) = (t2 : Int) := by omega
 have r2 : bits .and .u64 (t2 : Int) 4294967295 = (d2 : Int) := by rw [hd2]; exact and32 t2 (by omega)
 have r2' : (t2 : Int) / 4294967296 = (s2 : Int) := by omega
 have ro2 : (1 : Int) - (s2 : Int) = (o2 : Int) := by omega
 have c2 : t2 < 18446744073709551616 := by omega
 have ch2 : h2 < 18446744073709551616 := by omega
 have cg2 : g2 < 18446744073709551616 := by omega
 have ce2 : e2' < 18446744073709551616 := by omega
 have n3 : (a3 : Int) + 4294967295 = (h3 : Int) := by omega
 have nn3 : (h3 : Int) + 1 = (g3 : Int) := by omega
 have ne3 : (g3 : Int) - (b3 : Int) = (e3' : Int) := by omega
 have nt3 : (e3' : Int) - (o2 : Int) = (t3 : Int) := by omega
 have r3 : bits .and .u64 (t3 : Int) 4294967295 = (d3 : Int) := by rw [hd3]; exact and32 t3 (by omega)
 have r3' : (t3 : Int) / 4294967296 = (s3 : Int) := by omega
 have ro3 : (1 : Int) - (s3 : Int) = (o3 : Int) := by omega
 have c3 : t3 < 18446744073709551616 := by omega
 have ch3 : h3 < 18446744073709551616 := by omega
 have cg3 : g3 < 18446744073709551616 := by omega
 have ce3 : e3' < 18446744073709551616 := by omega
 clear hh0 hg0 he0 ht0 hd0 hs0 ho0 hh1 hg1 he1 ht1 hd1 hs1 ho1 hh2 hg2 he2 ht2 hd2 hs2 ho2 hh3 hg3 he3 ht3 hd3 hs3 ho3 e1 e2 e3 f1 f2 f3 q2' q1' q0' FX hres o30 hyx
 go_enter Tryz.func121, Tryz.ntmps121
 go_wp2_with fail
 have XB : Hid ((((w.alloc (.cells #[.int .u64 (a0 : Int), .int .u64 (a1 : Int), .int .u64 (a2 : Int), .int .u64 (a3 : Int)] 156)).alloc (.cells #[.int .u64 (b0 : Int), .int .u64 (b1 : Int), .int .u64 (b2 : Int), .int .u64 (b3 : Int)] 156)).alloc (.cells #[.int .u64 0, .int .u64 0, .int .u64 0, .int .u64 0] 156)).heap[w.heap.size]? = some (.cells #[.int .u64 (a0 : Int), .int .u64 (a1 : Int), .int .u64 (a2 : Int), .int .u64 (a3 : Int)] 156)) := Lib.hid (blk_alloc (blk_alloc (blk_new w _) _) _)
 have YB := Lib.hid (blk3b w (.cells #[.int .u64 (a0 : Int), .int .u64 (a1 : Int), .int .u64 (a2 : Int), .int .u64 (a3 : Int)] 156) (.cells #[.int .u64 (b0 : Int), .int .u64 (b1 : Int), .int .u64 (b2 : Int), .int .u64 (b3 : Int)] 156) (.cells #[.int .u64 0, .int .u64 0, .int .u64 0, .int .u64 0] 156))
 have ZB := Lib.hid (blk3c w (.cells #[.int .u64 (a0 : Int), .int .u64 (a1 : Int), .int .u64 (a2 : Int), .int .u64 (a3 : Int)] 156) (.cells #[.int .u64 (b0 : Int), .int .u64 (b1 : Int), .int .u64 (b2 : Int), .int .u64 (b3 : Int)] 156) (.cells #[.int .u64 0, .int .u64 0, .int .u64 0, .int .u64 0] 156))
 have NB : Hid (Below w.heap.size w (((w.alloc (.cells #[.int .u64 (a0 : Int), .int .u64 (a1 : Int), .int .u64 (a2 : Int), .int .u64 (a3 : Int)] 156)).alloc (.cells #[.int .u64 (b0 : Int), .int .u64 (b1 : Int), .int .u64 (b2 : Int), .int .u64 (b3 : Int)] 156)).alloc (.cells #[.int .u64 0, .int .u64 0, .int .u64 0, .int .u64 0] 156))) := Lib.hid (Bal (Bal (Bal (Below.refl _ _) _) _) _)
 generalize ((w.alloc (.cells #[.int .u64 (a0 : Int), .int .u64 (a1 : Int), .int .u64 (a2 : Int), .int .u64 (a3 : Int)] 156)).alloc (.cells #[.int .u64 (b0 : Int), .int .u64 (b1 : Int), .int .u64 (b2 : Int), .int .u64 (b3 : Int)] 156)).alloc (.cells #[.int .u64 0, .int .u64 0, .int .u64 0, .int .u64 0] 156) = W at *
 go_loopw [5, 6] (fun c i wr => Hid (Below w.heap.size w wr) ∧ Hid (wr.heap[w.heap.size + 1]? = some (.cells #[.int .u64 (b0 : Int), .int .u64 (b1 : Int), .int .u64 (b2 : Int), .int .u64 (b3 : Int)] 156)) ∧ Hid (wr.heap[w.heap.size + 1 + 1]? = some (.cells #[.int .u64 0, .int .u64 0, .int .u64 0, .int .u64 0] 156)) ∧ ((i = .int .i64 0 ∧ c = .int .u64 0 ∧ Hid (wr.heap[w.heap.size]? = some (.cells #[.int .u64 (a0 : Int), .int .u64 (a1 : Int), .int .u64 (a2 : Int), .int .u64 (a3 : Int)] 156))) ∨ (i = .int .i64 1 ∧ c = .int .u64 (o0 : Int) ∧ Hid (wr.heap[w.heap.size]? = some (.cells #[.int .u64 (d0 : Int), .int .u64 (a1 : Int), .int .u64 (a2 : Int), .int .u64 (a3 : Int)] 156))) ∨ (i = .int .i64 2 ∧ c = .int .u64 (o1 : Int) ∧ Hid (wr.heap[w.heap.size]? = some (.cells #[.int .u64 (d0 : Int), .int .u64 (d1 : Int), .int .u64 (a2 : Int), .int .u64 (a3 : Int)] 156))) ∨ (i = .int .i64 3 ∧ c = .int .u64 (o2 : Int) ∧ Hid (wr.heap[w.heap.size]? = some (.cells #[.int .u64 (d0 : Int), .int .u64 (d1 : Int), .int .u64 (d2 : Int), .int .u64 (a3 : Int)] 156))) ∨ (i = .int .i64 4 ∧ c = .int .u64 (o3 : Int) ∧ Hid (wr.heap[w.heap.size]? = some (.cells #[.int .u64 (d0 : Int), .int .u64 (d1 : Int), .int .u64 (d2 : Int), .int .u64 (d3 : Int)] 156))))) (fun _ i _ => 4 - (intOf i).toNat)
 case atStart => exact ⟨NB, YB, ZB, .inl ⟨rfl, rfl, XB⟩⟩
 case round =>
  clear NB YB ZB XB
  obtain ⟨NB, YB, ZB, (⟨rfl, rfl, XB⟩ | ⟨rfl, rfl, XB⟩ | ⟨rfl, rfl, XB⟩ | ⟨rfl, rfl, XB⟩ | ⟨rfl, rfl, XB⟩)⟩ := hrel
  ·have ox := blk_cell XB.out 0 _ rfl
   have oy := blk_cell YB.out 0 _ rfl
   have ol := blk_lt XB.out
   have of_ := blk_frozen XB.out 0
   go_wp2_with fail
   go_quiet (fail)
   go_wp2_with fail
   refine ⟨⟨Lib.hid (Bset1 (below_drewN NB.out nq) (Nat.le_refl _) 0 _), Lib.hid (blk_set_other YB.out (by omega) 0 _), Lib.hid (blk_set_other ZB.out (by omega) 0 _), .inr (.inl ⟨rfl, rfl, Lib.hid (blk_set XB.out 0 (.int .u64 (d0 : Int)))⟩)⟩, by simp [intOf]⟩
  ·have ox := blk_cell XB.out 1 _ rfl
   have oy := blk_cell YB.out 1 _ rfl
   have ol := blk_lt XB.out
   have of_ := blk_frozen XB.out 1
   go_wp2_with fail
   go_quiet (fail)
   go_wp2_with fail
   refine ⟨⟨Lib.hid (Bset1 (below_drewN NB.out nq) (Nat.le_refl _) 1 _), Lib.hid (blk_set_other YB.out (by omega) 1 _), Lib.hid (blk_set_other ZB.out (by omega) 1 _), .inr (.inr (.inl ⟨rfl, rfl, Lib.hid (blk_set XB.out 1 (.int .u64 (d1 : Int)))⟩))⟩, by simp [intOf]⟩
  ·have ox := blk_cell XB.out 2 _ rfl
   have oy := blk_cell YB.out 2 _ rfl
   have ol := blk_lt XB.out
   have of_ := blk_frozen XB.out 2
   go_wp2_with fail
   go_quiet (fail)
   go_wp2_with fail
   refine ⟨⟨Lib.hid (Bset1 (below_drewN NB.out nq) (Nat.le_refl _) 2 _), Lib.hid (blk_set_other YB.out (by omega) 2 _), Lib.hid (blk_set_other ZB.out (by omega) 2 _), .inr (.inr (.inr (.inl ⟨rfl, rfl, Lib.hid (blk_set XB.out 2 (.int .u64 (d2 : Int)))⟩)))⟩, by simp [intOf]⟩
  ·have ox := blk_cell XB.out 3 _ rfl
   have oy := blk_cell YB.out 3 _ rfl
   have ol := blk_lt XB.out
   have of_ := blk_frozen XB.out 3
   go_wp2_with fail
   go_quiet (fail)
   go_wp2_with fail
   refine ⟨⟨Lib.hid (Bset1 (below_drewN NB.out nq) (Nat.le_refl _) 3 _), Lib.hid (blk_set_other YB.out (by omega) 3 _), Lib.hid (blk_set_other ZB.out (by omega) 3 _), .inr (.inr (.inr (.inr (⟨rfl, rfl, Lib.hid (blk_set XB.out 3 (.int .u64 (d3 : Int)))⟩))))⟩, by simp [intOf]⟩
  ·have z0 := blk_cell XB.out 0 _ rfl
   have z1 := blk_cell XB.out 1 _ rfl
   have z2 := blk_cell XB.out 2 _ rfl
   have z3 := blk_cell XB.out 3 _ rfl
   have y0 := blk_cell ZB.out 0 _ rfl
   have f0 := blk_frozen ZB.out 0
   have y1 := blk_cell ZB.out 1 _ rfl
   have f1 := blk_frozen ZB.out 1
   have y2 := blk_cell ZB.out 2 _ rfl
   have f2 := blk_frozen ZB.out 2
   have y3 := blk_cell ZB.out 3 _ rfl
   have f3 := blk_frozen ZB.out 3
   have gl := blk_lt ZB.out
   have ol := blk_lt XB.out
   go_wp2_with fail
   have Z := blk_set (blk_set (blk_set (blk_set ZB.out 0 (.int .u64 (d0 : Int))) 1 (.int .u64 (d1 : Int))) 2 (.int .u64 (d2 : Int))) 3 (.int .u64 (d3 : Int))
   have g0 := blk_cell Z 0 _ rfl
   have g1 := blk_cell Z 1 _ rfl
   have g2 := blk_cell Z 2 _ rfl
   have g3 := blk_cell Z 3 _ rfl
   refine bodyPost_ret (v := Bv d0 d1 d2 d3) (by simp [results, Tryz.results121, go_sem, g0, g1, g2, g3]) rfl ⟨by rw [FIN.out], Bset1 (Bset1 (Bset1 (Bset1 NB.out (by omega) _ _) (by omega) _ _) (by omega) _ _) (by omega) _ _⟩
end Go.Proofs.YtfangplfbbgphaaGreatDoor
namespace Go.Proofs.YtfangplfbbgphaaGreatDoor
open Go.ChangeShapes Go.WideShapes Go.ChangeAt Go.RowKit
set_option linter.unusedVariables false
set_option maxRecDepth 100000
attribute [local go_sem ↓] Go.wp_at_zero Go.wp_at_succ
def Ov (n r0 D k r o : Nat) : Prop := ∃ q, r0 * 2 ^ (32 - k) + D / 2 ^ k = q * n + r ∧ r < n ∧ o = q * 2 ^ k ∧ q < 2 ^ (32 - k)
theorem ov_init {n r0 D : Nat} (h : r0 < n) (hD : D < 4294967296) : Ov n r0 D 32 r0 0 := ⟨0, by
 have : D / 2 ^ 32 = 0 := Nat.div_eq_of_lt hD
 rw [this]; simp, h, by simp, by simp⟩
theorem ov_lt {n r0 D k r o : Nat} (h : Ov n r0 D k r o) (hk : k ≤ 32) : o < 4294967296 := by
 obtain ⟨q, e, hr, rfl, hq⟩ := h
 have e2 : 2 ^ (32 - k) * 2 ^ k = 4294967296 := by rw [← Nat.pow_add, Nat.sub_add_cancel hk]
 rw [← e2]
 exact Nat.mul_lt_mul_of_pos_right hq (Nat.two_pow_pos k)
theorem ov_bit (D j : Nat) : D / 2 ^ j = 2 * (D / 2 ^ (j + 1)) + D / 2 ^ j % 2 := by
 have : D / 2 ^ (j + 1) = D / 2 ^ j / 2 := by rw [Nat.pow_succ, Nat.div_div_eq_div_mul]
 omega
theorem ov_eq {n r0 D j r q c : Nat} (hj : j < 32) (e : r0 * 2 ^ (32 - (j + 1)) + D / 2 ^ (j + 1) = q * n + r) (hc : D / 2 ^ j % 2 = c) : r0 * 2 ^ (32 - j) + D / 2 ^ j = 2 * (q * n) + (2 * r + c) := by
 have e1 : 32 - j = (32 - (j + 1)) + 1 := by omega
 have b := ov_bit D j
 rw [hc] at b
 rw [e1, Nat.pow_succ, ← Nat.mul_assoc, b]
 generalize r0 * 2 ^ (32 - (j + 1)) = A at *
 omega
theorem ov_q {j q : Nat} (hj : j < 32) (h : q < 2 ^ (32 - (j + 1))) : 2 * q + 1 < 2 ^ (32 - j) := by
 have e1 : 32 - j = (32 - (j + 1)) + 1 := by omega
 rw [e1, Nat.pow_succ]
 omega
theorem ov_less {n r0 D j r o c : Nat} (h : Ov n r0 D (j + 1) r o) (hj : j < 32) (hc : D / 2 ^ j % 2 = c) (hl : 2 * r + c < n) : Ov n r0 D j (2 * r + c) o := by
 obtain ⟨q, e, hr, rfl, hq⟩ := h
 refine ⟨2 * q, ?_, hl, ?_, ?_⟩
 ·rw [ov_eq hj e hc, Nat.mul_assoc]
 ·rw [Nat.pow_succ]; grind
 ·have := ov_q hj hq; omega
theorem ov_more {n r0 D j r o c : Nat} (h : Ov n r0 D (j + 1) r o) (hj : j < 32) (hc : D / 2 ^ j % 2 = c) (hl : n ≤ 2 * r + c) : Ov n r0 D j (2 * r + c - n) (o + 2 ^ j) := by
 obtain ⟨q, e, hr, rfl, hq⟩ := h
 refine ⟨2 * q + 1, ?_, ?_, ?_, ?_⟩
 ·rw [ov_eq hj e hc, Nat.add_mul, Nat.mul_assoc]; omega
 ·have : D / 2 ^ j % 2 < 2 := Nat.mod_lt _ (by omega)
  omega
 ·rw [Nat.pow_succ]; grind
 ·exact ov_q hj hq
theorem ov_or {n r0 D j r o : Nat} (h : Ov n r0 D (j + 1) r o) (hj : j < 32) : bits .or .u64 (o : Int) (2 ^ j : Int) = ((o + 2 ^ j : Nat) : Int) := by
 have l := ov_lt h (by omega)
 have p : 2 ^ j < 4294967296 := Nat.pow_lt_pow_right (a := 2) (n := 32) (by omega) hj
 obtain ⟨q, e, hr, rfl, hq⟩ := h
 have h := u64_or_nat (q * 2 ^ (j + 1)) (2 ^ j) (by omega) (by omega)
 rw [show ((2 ^ j : Nat) : Int) = (2 ^ j : Int) from by simp] at h
 rw [h]
 congr 1
 have h2 := Nat.shiftLeft_add_eq_or_of_lt (i := j + 1) (b := 2 ^ j) (Nat.pow_lt_pow_right (by omega) (by omega)) q
 rw [Nat.shiftLeft_eq] at h2
 exact h2.symm
theorem ov_or1 (r c : Nat) (hr : r < 4611686018427387904) (hc : c < 2) : bits .or .u64 ((r : Int) * 2) (c : Int) = ((2 * r + c : Nat) : Int) := by
 have h := u64_or_nat (r * 2) c (by omega) (by omega)
 rw [show (((r * 2 : Nat) : Nat) : Int) = (r : Int) * 2 by omega] at h
 rw [h]
 congr 1
 have h2 := Nat.shiftLeft_add_eq_or_of_lt (i := 1) (b := c) (by omega) r
 rw [Nat.shiftLeft_eq, Nat.pow_one] at h2
 omega
theorem ov_and1 (D j : Nat) (hD : D < 4294967296) : bits .and .u64 ((D : Int) / 2 ^ j) 1 = ((D / 2 ^ j % 2 : Nat) : Int) := by
 have l : D / 2 ^ j ≤ D := Nat.div_le_self _ _
 have h := u64_and_nat (D / 2 ^ j) 1 (by omega) (by omega)
 rw [show ((D / 2 ^ j : Nat) : Int) = (D : Int) / 2 ^ j from by simp] at h
 rw [show ((1 : Nat) : Int) = 1 from rfl] at h
 rw [h]
 congr 1
 exact Nat.and_one_is_mod _
theorem ov_cast (j : Nat) : ((2 ^ j : Nat) : Int) = (2 : Int) ^ j := by simp
theorem ov_pow {j : Nat} (h : j ≤ 31) : (2 : Int) ^ j ≤ 2147483648 := by
 have h1 : 2 ^ j ≤ 2 ^ 31 := Nat.pow_le_pow_right (n := 2) (by omega) h
 rw [← ov_cast j]
 omega
theorem ov_pos (j : Nat) : (0 : Int) < (2 : Int) ^ j := by
 have h1 := Nat.two_pow_pos j
 rw [← ov_cast j]
 omega
theorem ov_wrap {j : Nat} (h : j ≤ 31) : IntKind.u64.wrap ((2 : Int) ^ j) = (2 : Int) ^ j := by
 have h1 := ov_pow h
 have h2 := ov_pos j
 rw [IntKind.wrap_u64]
 omega
theorem ov_done {n r0 D r o R O : Nat} (h : Ov n r0 D 0 r o) (e : r0 * 4294967296 + D = O * n + R) (hR : R < n) : r = R ∧ o = O := by
 obtain ⟨q, e1, hr, rfl, hq⟩ := h
 have e2 : r0 * 4294967296 + D = q * n + r := by
  have : D / 2 ^ 0 = D := by simp
  rw [this] at e1
  exact e1
 have k1 : (r0 * 4294967296 + D) % n = r := by rw [e2, Nat.mul_comm, Nat.mul_add_mod, Nat.mod_eq_of_lt hr]
 have k2 : (r0 * 4294967296 + D) % n = R := by rw [e, Nat.mul_comm, Nat.mul_add_mod, Nat.mod_eq_of_lt hR]
 have k3 : (r0 * 4294967296 + D) / n = q := by rw [e2, Nat.mul_comm, Nat.mul_add_div (by omega), Nat.div_eq_of_lt hr]; rfl
 have k4 : (r0 * 4294967296 + D) / n = O := by rw [e, Nat.mul_comm, Nat.mul_add_div (by omega), Nat.div_eq_of_lt hR]; rfl
 refine ⟨by omega, by simp; omega⟩
theorem ov_four {x n a b c d A B C E R0 R1 R2 R3 : Nat} {u v : Nat} (h1 : x = a + 4294967296 * u) (h2 : u = b + 4294967296 * v) (h3 : v = c + 4294967296 * d)
  (k3 : d = E * n + R3) (k2 : R3 * 4294967296 + c = C * n + R2) (k1 : R2 * 4294967296 + b = B * n + R1) (k0 : R1 * 4294967296 + a = A * n + R0) : x = bigN A B C E * n + R0 := by
 unfold bigN
 grind
set_option maxRecDepth 100000 in
set_option maxHeartbeats 8000000 in
theorem refOver_calls (x n : Nat) (w : World) (hx : sm4 x) (h1 : 1 ≤ n) (hn : n < 4611686018427387904) :
  Calls Tryz.prog 122 #[Dv x, .int .u64 n] w fun e w' => e = .returned (.tuple #[Dv (x / n), .int .u64 (x % n : Nat)]) ∧ Below w.heap.size w w' := by
 obtain ⟨u, v, e1, e2, e3⟩ := dg_split hx
 have l0 := dg_lt x 0
 have l1 := dg_lt x 1
 have l2 := dg_lt x 2
 have l3 := dg_lt x 3
 have FX : Hid (∀ O0 O1 O2 O3 R : Nat, O0 < 4294967296 → O1 < 4294967296 → O2 < 4294967296 → O3 < 4294967296 → R < n → x = bigN O0 O1 O2 O3 * n + R → Bv O0 O1 O2 O3 = Dv (x / n) ∧ R = x % n) := Lib.hid (fun O0 O1 O2 O3 R h0 h1 h2 h3 hR h => by
  have k1 : x % n = R := by rw [h, Nat.mul_comm, Nat.mul_add_mod, Nat.mod_eq_of_lt hR]
  have k2 : x / n = bigN O0 O1 O2 O3 := by rw [h, Nat.mul_comm, Nat.mul_add_div (by omega), Nat.div_eq_of_lt hR]; rfl
  exact ⟨dv_of h0 h1 h2 h3 k2, k1.symm⟩)
 generalize hres : Dv (x / n) = res at *
 generalize hrem : x % n = rem at *
 unfold Dv
 generalize dg x 0 = a0 at *
 generalize dg x 1 = a1 at *
 generalize dg x 2 = a2 at *
 generalize dg x 3 = a3 at *
 have dv : ∀ R D : Nat, R < n → D < 4294967296 → ∃ O S : Nat, R * 4294967296 + D = O * n + S ∧ S < n ∧ O < 4294967296 := fun R D hR hD => ⟨(R * 4294967296 + D) / n, (R * 4294967296 + D) % n, by rw [Nat.mul_comm _ n]; exact (Nat.div_add_mod _ _).symm, Nat.mod_lt _ (by omega), by
  rw [Nat.div_lt_iff_lt_mul (by omega)]
  have : (R + 1) * 4294967296 ≤ n * 4294967296 := Nat.mul_le_mul_right _ hR
  rw [Nat.mul_comm 4294967296 n]; omega⟩
 obtain ⟨O3, R3, g3, m3, n3⟩ := dv 0 a3 (by omega) l3
 obtain ⟨O2, R2, g2, m2, n2⟩ := dv R3 a2 m3 l2
 obtain ⟨O1, R1, g1, m1, n1⟩ := dv R2 a1 m2 l1
 obtain ⟨O0, R0, g0, m0, n0⟩ := dv R1 a0 m1 l0
 have FIN : Hid (Bv O0 O1 O2 O3 = res ∧ R0 = rem) := Lib.hid (FX.out O0 O1 O2 O3 R0 n0 n1 n2 n3 m0 (ov_four e1 e2 e3 (by omega) g2 g1 g0))
 have G0 := Lib.hid g0
 have G1 := Lib.hid g1
 have G2 := Lib.hid g2
 have G3 := Lib.hid g3
 clear g0 g1 g2 g3 e1 e2 e3 FX hres hrem dv
 go_enter Tryz.func122, Tryz.ntmps122
 go_wp2_with fail
 have XB : Hid ((((w.alloc (.cells #[.int .u64 (a0 : Int), .int .u64 (a1 : Int), .int .u64 (a2 : Int), .int .u64 (a3 : Int)] 156)).alloc (.cells #[.int .u64 0, .int .u64 0, .int .u64 0, .int .u64 0] 156)).alloc (.cells #[.int .u64 0, .int .u64 0, .int .u64 0, .int .u64 0] 156)).heap[w.heap.size]? = some (.cells #[.int .u64 (a0 : Int), .int .u64 (a1 : Int), .int .u64 (a2 : Int), .int .u64 (a3 : Int)] 156)) := Lib.hid (blk_alloc (blk_alloc (blk_new w _) _) _)
 have ZB := Lib.hid (blk3b w (.cells #[.int .u64 (a0 : Int), .int .u64 (a1 : Int), .int .u64 (a2 : Int), .int .u64 (a3 : Int)] 156) (.cells #[.int .u64 0, .int .u64 0, .int .u64 0, .int .u64 0] 156) (.cells #[.int .u64 0, .int .u64 0, .int .u64 0, .int .u64 0] 156))
 have OB := Lib.hid (blk3c w (.cells #[.int .u64 (a0 : Int), .int .u64 (a1 : Int), .int .u64 (a2 : Int), .int .u64 (a3 : Int)] 156) (.cells #[.int .u64 0, .int .u64 0, .int .u64 0, .int .u64 0] 156) (.cells #[.int .u64 0, .int .u64 0, .int .u64 0, .int .u64 0] 156))
 have NB : Hid (Below w.heap.size w (((w.alloc (.cells #[.int .u64 (a0 : Int), .int .u64 (a1 : Int), .int .u64 (a2 : Int), .int .u64 (a3 : Int)] 156)).alloc (.cells #[.int .u64 0, .int .u64 0, .int .u64 0, .int .u64 0] 156)).alloc (.cells #[.int .u64 0, .int .u64 0, .int .u64 0, .int .u64 0] 156))) := Lib.hid (Bal (Bal (Bal (Below.refl _ _) _) _) _)
 generalize ((w.alloc (.cells #[.int .u64 (a0 : Int), .int .u64 (a1 : Int), .int .u64 (a2 : Int), .int .u64 (a3 : Int)] 156)).alloc (.cells #[.int .u64 0, .int .u64 0, .int .u64 0, .int .u64 0] 156)).alloc (.cells #[.int .u64 0, .int .u64 0, .int .u64 0, .int .u64 0] 156) = W at *
 have e1 : Hid (w.heap.size + 1 + 1 ≠ w.heap.size) := Lib.hid (by omega)
 have e2 : Hid (w.heap.size + 1 + 1 ≠ w.heap.size + 1) := Lib.hid (by omega)
 have e3 : Hid (w.heap.size ≤ w.heap.size + 1 + 1) := Lib.hid (by omega)
 have e4 : Hid (w.heap.size ≤ w.heap.size + 1) := Lib.hid (by omega)
 go_loopw [7, 8] (fun r i wr => Hid (Below w.heap.size w wr) ∧ Hid (wr.heap[w.heap.size]? = some (.cells #[.int .u64 (a0 : Int), .int .u64 (a1 : Int), .int .u64 (a2 : Int), .int .u64 (a3 : Int)] 156)) ∧ Hid (wr.heap[w.heap.size + 1]? = some (.cells #[.int .u64 0, .int .u64 0, .int .u64 0, .int .u64 0] 156)) ∧ ((r = .int .u64 0 ∧ i = .int .i64 3 ∧ Hid (wr.heap[w.heap.size + 1 + 1]? = some (.cells #[.int .u64 0, .int .u64 0, .int .u64 0, .int .u64 0] 156))) ∨ (r = .int .u64 (R3 : Int) ∧ i = .int .i64 2 ∧ Hid (wr.heap[w.heap.size + 1 + 1]? = some (.cells #[.int .u64 0, .int .u64 0, .int .u64 0, .int .u64 (O3 : Int)] 156))) ∨ (r = .int .u64 (R2 : Int) ∧ i = .int .i64 1 ∧ Hid (wr.heap[w.heap.size + 1 + 1]? = some (.cells #[.int .u64 0, .int .u64 0, .int .u64 (O2 : Int), .int .u64 (O3 : Int)] 156))) ∨ (r = .int .u64 (R1 : Int) ∧ i = .int .i64 0 ∧ Hid (wr.heap[w.heap.size + 1 + 1]? = some (.cells #[.int .u64 0, .int .u64 (O1 : Int), .int .u64 (O2 : Int), .int .u64 (O3 : Int)] 156))) ∨ (r = .int .u64 (R0 : Int) ∧ i = .int .i64 (-1) ∧ Hid (wr.heap[w.heap.size + 1 + 1]? = some (.cells #[.int .u64 (O0 : Int), .int .u64 (O1 : Int), .int .u64 (O2 : Int), .int .u64 (O3 : Int)] 156))))) (fun _ i _ => (intOf i + 1).toNat)
 case atStart => exact ⟨NB, XB, ZB, .inl ⟨rfl, rfl, OB⟩⟩
 case round =>
  clear NB XB ZB OB
  obtain ⟨NB, XB, ZB, (⟨rfl, rfl, OB⟩ | ⟨rfl, rfl, OB⟩ | ⟨rfl, rfl, OB⟩ | ⟨rfl, rfl, OB⟩ | ⟨rfl, rfl, OB⟩)⟩ := hrel
  ·obtain ⟨wo, rfl⟩ : ∃ wo : World, wo = wr := ⟨_, rfl⟩
   go_wp2_with fail
   go_loopw [7, 9] (fun s b wr => ∃ k r o : Nat, k ≤ 32 ∧ b = .int .i64 ((k : Int) - 1) ∧ s = .int .u64 (r : Int) ∧ Hid (Ov n 0 a3 k r o) ∧ Hid (Below w.heap.size w wr) ∧ Hid (wr.heap[w.heap.size]? = some (.cells #[.int .u64 (a0 : Int), .int .u64 (a1 : Int), .int .u64 (a2 : Int), .int .u64 (a3 : Int)] 156)) ∧ Hid (wr.heap[w.heap.size + 1]? = some (.cells #[.int .u64 0, .int .u64 0, .int .u64 0, .int .u64 0] 156)) ∧ Hid (wr.heap[w.heap.size + 1 + 1]? = some (.cells #[.int .u64 0, .int .u64 0, .int .u64 0, .int .u64 (o : Int)] 156))) (fun _ b _ => (intOf b + 1).toNat)
   case atStart => exact ⟨32, 0, 0, Nat.le_refl _, rfl, rfl, Lib.hid (ov_init (by omega) l3), NB, XB, ZB, OB⟩
   case round =>
    clear NB XB ZB OB
    obtain ⟨k, r, o, hk, rfl, rfl, OV, NB, XB, ZB, OB⟩ := hrel
    cases k with
    | zero =>
     rw [show (((0 : Nat) : Int) - 1) = -1 from rfl]
     obtain ⟨rfl, rfl⟩ := ov_done OV.out G3.out m3
     go_wp2_with fail
     go_roundw
     case rel => exact ⟨NB, XB, ZB, .inr (.inl ⟨rfl, rfl, OB⟩)⟩
     case measure => simp [intOf]
    | succ j =>
     have hj : j ≤ 31 := by omega
     rw [show (((j + 1 : Nat) : Int) - 1) = (j : Int) by omega]
     obtain ⟨hr, ho⟩ : r < n ∧ o < 4294967296 := ⟨by obtain ⟨_, _, h, _, _⟩ := OV.out; exact h, ov_lt OV.out hk⟩
     have ba := ov_and1 a3 j l3
     obtain ⟨c, hc⟩ : ∃ c, a3 / 2 ^ j % 2 = c := ⟨_, rfl⟩
     have c2 : c < 2 := by omega
     rw [hc] at ba
     have bo := ov_or1 r c (by omega) c2
     have HC := Lib.hid hc
     have HL := Lib.hid (fun h => ov_less OV.out (Nat.lt_succ_of_le hj) HC.out h)
     have HM := Lib.hid (fun h => ov_more OV.out (Nat.lt_succ_of_le hj) HC.out h)
     have bp := ov_or OV.out (Nat.lt_succ_of_le hj)
     obtain ⟨t, ht⟩ : ∃ t, 2 * r + c = t := ⟨_, rfl⟩
     rw [ht] at bo HL HM
     have pj : (2 : Int) ^ j ≤ 2147483648 := ov_pow hj
     have wj := ov_wrap hj
     have pp : (0 : Int) < (2 : Int) ^ j := ov_pos j
     have xx := blk_cell XB.out 3 _ rfl
     have oo := blk_cell OB.out 3 _ rfl
     have ol := blk_lt OB.out
     have of_ := blk_frozen OB.out 3
     have tb : t < 18446744073709551616 := by omega
     clear hc HC
     by_cases ct : n ≤ t
     ·have ct' : (n : Int) ≤ (t : Int) := by omega
      have HM' := Lib.hid (HM.out ct)
      obtain ⟨z, hz⟩ : ∃ z, t - n = z := ⟨_, rfl⟩
      obtain ⟨y, hy⟩ : ∃ y, o + 2 ^ j = y := ⟨_, rfl⟩
      rw [hz, hy] at HM'
      rw [hy] at bp
      have hy' := ov_lt HM'.out (by omega)
      have sz : (t : Int) - (n : Int) = (z : Int) := by omega
      have zb : z < 4611686018427387904 := by omega
      have HZ := Lib.hid hz
      clear hz hy ht HL HM
      go_wp2_with fail
      go_region
      go_wp2_with fail
      refine ⟨⟨j, z, y, by omega, rfl, rfl, HM', Lib.hid (Bset1 (below_drewN NB.out 1) e3.out 3 _), Lib.hid (blk_set_other XB.out e1.out 3 _), Lib.hid (blk_set_other ZB.out e2.out 3 _), Lib.hid (blk_set OB.out 3 (.int .u64 (y : Int)))⟩, by simp [intOf]⟩
     ·have ct' : (t : Int) < (n : Int) := by omega
      have HL' := Lib.hid (HL.out (by omega))
      clear ht HL HM bp
      go_wp2_with fail
      refine ⟨⟨j, t, o, by omega, rfl, rfl, HL', NB, XB, ZB, OB⟩, by simp [intOf]⟩
  ·obtain ⟨wo, rfl⟩ : ∃ wo : World, wo = wr := ⟨_, rfl⟩
   go_wp2_with fail
   go_loopw [7, 9] (fun s b wr => ∃ k r o : Nat, k ≤ 32 ∧ b = .int .i64 ((k : Int) - 1) ∧ s = .int .u64 (r : Int) ∧ Hid (Ov n R3 a2 k r o) ∧ Hid (Below w.heap.size w wr) ∧ Hid (wr.heap[w.heap.size]? = some (.cells #[.int .u64 (a0 : Int), .int .u64 (a1 : Int), .int .u64 (a2 : Int), .int .u64 (a3 : Int)] 156)) ∧ Hid (wr.heap[w.heap.size + 1]? = some (.cells #[.int .u64 0, .int .u64 0, .int .u64 0, .int .u64 0] 156)) ∧ Hid (wr.heap[w.heap.size + 1 + 1]? = some (.cells #[.int .u64 0, .int .u64 0, .int .u64 (o : Int), .int .u64 (O3 : Int)] 156))) (fun _ b _ => (intOf b + 1).toNat)
   case atStart => exact ⟨32, R3, 0, Nat.le_refl _, rfl, rfl, Lib.hid (ov_init (by omega) l2), NB, XB, ZB, OB⟩
   case round =>
    clear NB XB ZB OB
    obtain ⟨k, r, o, hk, rfl, rfl, OV, NB, XB, ZB, OB⟩ := hrel
    cases k with
    | zero =>
     rw [show (((0 : Nat) : Int) - 1) = -1 from rfl]
     obtain ⟨rfl, rfl⟩ := ov_done OV.out G2.out m2
     go_wp2_with fail
     go_roundw
     case rel => exact ⟨NB, XB, ZB, .inr (.inr (.inl ⟨rfl, rfl, OB⟩))⟩
     case measure => simp [intOf]
    | succ j =>
     have hj : j ≤ 31 := by omega
     rw [show (((j + 1 : Nat) : Int) - 1) = (j : Int) by omega]
     obtain ⟨hr, ho⟩ : r < n ∧ o < 4294967296 := ⟨by obtain ⟨_, _, h, _, _⟩ := OV.out; exact h, ov_lt OV.out hk⟩
     have ba := ov_and1 a2 j l2
     obtain ⟨c, hc⟩ : ∃ c, a2 / 2 ^ j % 2 = c := ⟨_, rfl⟩
     have c2 : c < 2 := by omega
     rw [hc] at ba
     have bo := ov_or1 r c (by omega) c2
     have HC := Lib.hid hc
     have HL := Lib.hid (fun h => ov_less OV.out (Nat.lt_succ_of_le hj) HC.out h)
     have HM := Lib.hid (fun h => ov_more OV.out (Nat.lt_succ_of_le hj) HC.out h)
     have bp := ov_or OV.out (Nat.lt_succ_of_le hj)
     obtain ⟨t, ht⟩ : ∃ t, 2 * r + c = t := ⟨_, rfl⟩
     rw [ht] at bo HL HM
     have pj : (2 : Int) ^ j ≤ 2147483648 := ov_pow hj
     have wj := ov_wrap hj
     have pp : (0 : Int) < (2 : Int) ^ j := ov_pos j
     have xx := blk_cell XB.out 2 _ rfl
     have oo := blk_cell OB.out 2 _ rfl
     have ol := blk_lt OB.out
     have of_ := blk_frozen OB.out 2
     have tb : t < 18446744073709551616 := by omega
     clear hc HC
     by_cases ct : n ≤ t
     ·have ct' : (n : Int) ≤ (t : Int) := by omega
      have HM' := Lib.hid (HM.out ct)
      obtain ⟨z, hz⟩ : ∃ z, t - n = z := ⟨_, rfl⟩
      obtain ⟨y, hy⟩ : ∃ y, o + 2 ^ j = y := ⟨_, rfl⟩
      rw [hz, hy] at HM'
      rw [hy] at bp
      have hy' := ov_lt HM'.out (by omega)
      have sz : (t : Int) - (n : Int) = (z : Int) := by omega
      have zb : z < 4611686018427387904 := by omega
      have HZ := Lib.hid hz
      clear hz hy ht HL HM
      go_wp2_with fail
      go_region
      go_wp2_with fail
      refine ⟨⟨j, z, y, by omega, rfl, rfl, HM', Lib.hid (Bset1 (below_drewN NB.out 1) e3.out 2 _), Lib.hid (blk_set_other XB.out e1.out 2 _), Lib.hid (blk_set_other ZB.out e2.out 2 _), Lib.hid (blk_set OB.out 2 (.int .u64 (y : Int)))⟩, by simp [intOf]⟩
     ·have ct' : (t : Int) < (n : Int) := by omega
      have HL' := Lib.hid (HL.out (by omega))
      clear ht HL HM bp
      go_wp2_with fail
      refine ⟨⟨j, t, o, by omega, rfl, rfl, HL', NB, XB, ZB, OB⟩, by simp [intOf]⟩
  ·obtain ⟨wo, rfl⟩ : ∃ wo : World, wo = wr := ⟨_, rfl⟩
   go_wp2_with fail
   go_loopw [7, 9] (fun s b wr => ∃ k r o : Nat, k ≤ 32 ∧ b = .int .i64 ((k : Int) - 1) ∧ s = .int .u64 (r : Int) ∧ Hid (Ov n R2 a1 k r o) ∧ Hid (Below w.heap.size w wr) ∧ Hid (wr.heap[w.heap.size]? = some (.cells #[.int .u64 (a0 : Int), .int .u64 (a1 : Int), .int .u64 (a2 : Int), .int .u64 (a3 : Int)] 156)) ∧ Hid (wr.heap[w.heap.size + 1]? = some (.cells #[.int .u64 0, .int .u64 0, .int .u64 0, .int .u64 0] 156)) ∧ Hid (wr.heap[w.heap.size + 1 + 1]? = some (.cells #[.int .u64 0, .int .u64 (o : Int), .int .u64 (O2 : Int), .int .u64 (O3 : Int)] 156))) (fun _ b _ => (intOf b + 1).toNat)
   case atStart => exact ⟨32, R2, 0, Nat.le_refl _, rfl, rfl, Lib.hid (ov_init (by omega) l1), NB, XB, ZB, OB⟩
   case round =>
    clear NB XB ZB OB
    obtain ⟨k, r, o, hk, rfl, rfl, OV, NB, XB, ZB, OB⟩ := hrel
    cases k with
    | zero =>
     rw [show (((0 : Nat) : Int) - 1) = -1 from rfl]
     obtain ⟨rfl, rfl⟩ := ov_done OV.out G1.out m1
     go_wp2_with fail
     go_roundw
     case rel => exact ⟨NB, XB, ZB, .inr (.inr (.inr (.inl ⟨rfl, rfl, OB⟩)))⟩
     case measure => simp [intOf]
    | succ j =>
     have hj : j ≤ 31 := by omega
     rw [show (((j + 1 : Nat) : Int) - 1) = (j : Int) by omega]
     obtain ⟨hr, ho⟩ : r < n ∧ o < 4294967296 := ⟨by obtain ⟨_, _, h, _, _⟩ := OV.out; exact h, ov_lt OV.out hk⟩
     have ba := ov_and1 a1 j l1
     obtain ⟨c, hc⟩ : ∃ c, a1 / 2 ^ j % 2 = c := ⟨_, rfl⟩
     have c2 : c < 2 := by omega
     rw [hc] at ba
     have bo := ov_or1 r c (by omega) c2
     have HC := Lib.hid hc
     have HL := Lib.hid (fun h => ov_less OV.out (Nat.lt_succ_of_le hj) HC.out h)
     have HM := Lib.hid (fun h => ov_more OV.out (Nat.lt_succ_of_le hj) HC.out h)
     have bp := ov_or OV.out (Nat.lt_succ_of_le hj)
     obtain ⟨t, ht⟩ : ∃ t, 2 * r + c = t := ⟨_, rfl⟩
     rw [ht] at bo HL HM
     have pj : (2 : Int) ^ j ≤ 2147483648 := ov_pow hj
     have wj := ov_wrap hj
     have pp : (0 : Int) < (2 : Int) ^ j := ov_pos j
     have xx := blk_cell XB.out 1 _ rfl
     have oo := blk_cell OB.out 1 _ rfl
     have ol := blk_lt OB.out
     have of_ := blk_frozen OB.out 1
     have tb : t < 18446744073709551616 := by omega
     clear hc HC
     by_cases ct : n ≤ t
     ·have ct' : (n : Int) ≤ (t : Int) := by omega
      have HM' := Lib.hid (HM.out ct)
      obtain ⟨z, hz⟩ : ∃ z, t - n = z := ⟨_, rfl⟩
      obtain ⟨y, hy⟩ : ∃ y, o + 2 ^ j = y := ⟨_, rfl⟩
      rw [hz, hy] at HM'
      rw [hy] at bp
      have hy' := ov_lt HM'.out (by omega)
      have sz : (t : Int) - (n : Int) = (z : Int) := by omega
      have zb : z < 4611686018427387904 := by omega
      have HZ := Lib.hid hz
      clear hz hy ht HL HM
      go_wp2_with fail
      go_region
      go_wp2_with fail
      refine ⟨⟨j, z, y, by omega, rfl, rfl, HM', Lib.hid (Bset1 (below_drewN NB.out 1) e3.out 1 _), Lib.hid (blk_set_other XB.out e1.out 1 _), Lib.hid (blk_set_other ZB.out e2.out 1 _), Lib.hid (blk_set OB.out 1 (.int .u64 (y : Int)))⟩, by simp [intOf]⟩
     ·have ct' : (t : Int) < (n : Int) := by omega
      have HL' := Lib.hid (HL.out (by omega))
      clear ht HL HM bp
      go_wp2_with fail
      refine ⟨⟨j, t, o, by omega, rfl, rfl, HL', NB, XB, ZB, OB⟩, by simp [intOf]⟩
  ·obtain ⟨wo, rfl⟩ : ∃ wo : World, wo = wr := ⟨_, rfl⟩
   go_wp2_with fail
   go_loopw [7, 9] (fun s b wr => ∃ k r o : Nat, k ≤ 32 ∧ b = .int .i64 ((k : Int) - 1) ∧ s = .int .u64 (r : Int) ∧ Hid (Ov n R1 a0 k r o) ∧ Hid (Below w.heap.size w wr) ∧ Hid (wr.heap[w.heap.size]? = some (.cells #[.int .u64 (a0 : Int), .int .u64 (a1 : Int), .int .u64 (a2 : Int), .int .u64 (a3 : Int)] 156)) ∧ Hid (wr.heap[w.heap.size + 1]? = some (.cells #[.int .u64 0, .int .u64 0, .int .u64 0, .int .u64 0] 156)) ∧ Hid (wr.heap[w.heap.size + 1 + 1]? = some (.cells #[.int .u64 (o : Int), .int .u64 (O1 : Int), .int .u64 (O2 : Int), .int .u64 (O3 : Int)] 156))) (fun _ b _ => (intOf b + 1).toNat)
   case atStart => exact ⟨32, R1, 0, Nat.le_refl _, rfl, rfl, Lib.hid (ov_init (by omega) l0), NB, XB, ZB, OB⟩
   case round =>
    clear NB XB ZB OB
    obtain ⟨k, r, o, hk, rfl, rfl, OV, NB, XB, ZB, OB⟩ := hrel
    cases k with
    | zero =>
     rw [show (((0 : Nat) : Int) - 1) = -1 from rfl]
     obtain ⟨rfl, rfl⟩ := ov_done OV.out G0.out m0
     go_wp2_with fail
     go_roundw
     case rel => exact ⟨NB, XB, ZB, .inr (.inr (.inr (.inr (⟨rfl, rfl, OB⟩))))⟩
     case measure => simp [intOf]
    | succ j =>
     have hj : j ≤ 31 := by omega
     rw [show (((j + 1 : Nat) : Int) - 1) = (j : Int) by omega]
     obtain ⟨hr, ho⟩ : r < n ∧ o < 4294967296 := ⟨by obtain ⟨_, _, h, _, _⟩ := OV.out; exact h, ov_lt OV.out hk⟩
     have ba := ov_and1 a0 j l0
     obtain ⟨c, hc⟩ : ∃ c, a0 / 2 ^ j % 2 = c := ⟨_, rfl⟩
     have c2 : c < 2 := by omega
     rw [hc] at ba
     have bo := ov_or1 r c (by omega) c2
     have HC := Lib.hid hc
     have HL := Lib.hid (fun h => ov_less OV.out (Nat.lt_succ_of_le hj) HC.out h)
     have HM := Lib.hid (fun h => ov_more OV.out (Nat.lt_succ_of_le hj) HC.out h)
     have bp := ov_or OV.out (Nat.lt_succ_of_le hj)
     obtain ⟨t, ht⟩ : ∃ t, 2 * r + c = t := ⟨_, rfl⟩
     rw [ht] at bo HL HM
     have pj : (2 : Int) ^ j ≤ 2147483648 := ov_pow hj
     have wj := ov_wrap hj
     have pp : (0 : Int) < (2 : Int) ^ j := ov_pos j
     have xx := blk_cell XB.out 0 _ rfl
     have oo := blk_cell OB.out 0 _ rfl
     have ol := blk_lt OB.out
     have of_ := blk_frozen OB.out 0
     have tb : t < 18446744073709551616 := by omega
     clear hc HC
     by_cases ct : n ≤ t
     ·have ct' : (n : Int) ≤ (t : Int) := by omega
      have HM' := Lib.hid (HM.out ct)
      obtain ⟨z, hz⟩ : ∃ z, t - n = z := ⟨_, rfl⟩
      obtain ⟨y, hy⟩ : ∃ y, o + 2 ^ j = y := ⟨_, rfl⟩
      rw [hz, hy] at HM'
      rw [hy] at bp
      have hy' := ov_lt HM'.out (by omega)
      have sz : (t : Int) - (n : Int) = (z : Int) := by omega
      have zb : z < 4611686018427387904 := by omega
      have HZ := Lib.hid hz
      clear hz hy ht HL HM
      go_wp2_with fail
      go_region
      go_wp2_with fail
      refine ⟨⟨j, z, y, by omega, rfl, rfl, HM', Lib.hid (Bset1 (below_drewN NB.out 1) e3.out 0 _), Lib.hid (blk_set_other XB.out e1.out 0 _), Lib.hid (blk_set_other ZB.out e2.out 0 _), Lib.hid (blk_set OB.out 0 (.int .u64 (y : Int)))⟩, by simp [intOf]⟩
     ·have ct' : (t : Int) < (n : Int) := by omega
      have HL' := Lib.hid (HL.out (by omega))
      clear ht HL HM bp
      go_wp2_with fail
      refine ⟨⟨j, t, o, by omega, rfl, rfl, HL', NB, XB, ZB, OB⟩, by simp [intOf]⟩
  ·have z0 := blk_cell OB.out 0 _ rfl
   have z1 := blk_cell OB.out 1 _ rfl
   have z2 := blk_cell OB.out 2 _ rfl
   have z3 := blk_cell OB.out 3 _ rfl
   have y0 := blk_cell ZB.out 0 _ rfl
   have f0 := blk_frozen ZB.out 0
   have y1 := blk_cell ZB.out 1 _ rfl
   have f1 := blk_frozen ZB.out 1
   have y2 := blk_cell ZB.out 2 _ rfl
   have f2 := blk_frozen ZB.out 2
   have y3 := blk_cell ZB.out 3 _ rfl
   have f3 := blk_frozen ZB.out 3
   have gl := blk_lt ZB.out
   have ol := blk_lt OB.out
   go_wp2_with fail
   have Z := blk_set (blk_set (blk_set (blk_set ZB.out 0 (.int .u64 (O0 : Int))) 1 (.int .u64 (O1 : Int))) 2 (.int .u64 (O2 : Int))) 3 (.int .u64 (O3 : Int))
   have g0 := blk_cell Z 0 _ rfl
   have g1 := blk_cell Z 1 _ rfl
   have g2 := blk_cell Z 2 _ rfl
   have g3 := blk_cell Z 3 _ rfl
   refine bodyPost_ret (v := .tuple #[Bv O0 O1 O2 O3, .int .u64 (R0 : Int)]) (by simp [results, Tryz.results122, go_sem, g0, g1, g2, g3]) rfl ⟨by rw [FIN.out.1, FIN.out.2], Bset1 (Bset1 (Bset1 (Bset1 NB.out e4.out _ _) e4.out _ _) e4.out _ _) e4.out _ _⟩
end Go.Proofs.YtfangplfbbgphaaGreatDoor
