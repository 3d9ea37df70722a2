/- Contracts of layer 1: sums and differences of four digits, of the reference. -/
import Derived.Test.YtfangplfbbgphaaFro
namespace Go.Proofs.Ytfangplfbbgphaa
open Go.ChangeShapes Go.WideShapes Go.ChangeAt Go.RowKit
set_option linter.unusedVariables false
set_option maxRecDepth 100000
attribute [local go_sem ↓] Go.wp_at_zero Go.wp_at_succ

set_option maxRecDepth 100000 in
set_option maxHeartbeats 8000000 in
theorem refSum_calls (x y : Nat) (w : World) (hx : sm4 x) (hy : sm4 y) (hxy : sm4 (x + y)) :
    Calls Try.prog 81 #[Dv x, Dv y] w fun e w' => e = .returned (Dv (x + y)) ∧ Below w.heap.size w w' := by
  have FX : Hid (∀ d0 d1 d2 d3 : Nat, d0 < 4294967296 → d1 < 4294967296 → d2 < 4294967296 → d3 < 4294967296 → x + y = bigN d0 d1 d2 d3 → Bv d0 d1 d2 d3 = Dv (x + y)) := Lib.hid (fun d0 d1 d2 d3 h0 h1 h2 h3 h => dv_of h0 h1 h2 h3 h)
  unfold sm4 at hxy
  obtain ⟨u, v, e1, e2, e3⟩ := dg_split hx
  obtain ⟨s, t, f1, f2, f3⟩ := dg_split hy
  have l0 := dg_lt x 0
  have l1 := dg_lt x 1
  have l2 := dg_lt x 2
  have l3 := dg_lt x 3
  have m0 := dg_lt y 0
  have m1 := dg_lt y 1
  have m2 := dg_lt y 2
  have m3 := dg_lt y 3
  generalize hres : Dv (x + y) = res at *
  unfold Dv
  generalize dg x 0 = a0 at *
  generalize dg x 1 = a1 at *
  generalize dg x 2 = a2 at *
  generalize dg x 3 = a3 at *
  generalize dg y 0 = b0 at *
  generalize dg y 1 = b1 at *
  generalize dg y 2 = b2 at *
  generalize dg y 3 = b3 at *
  obtain ⟨t0, ht0⟩ : ∃ z, z = a0 + b0 := ⟨_, rfl⟩
  obtain ⟨d0, hd0⟩ : ∃ z, z = t0 % 4294967296 := ⟨_, rfl⟩
  obtain ⟨k0, hk0⟩ : ∃ z, z = t0 / 4294967296 := ⟨_, rfl⟩
  obtain ⟨p1, hp1⟩ : ∃ z, z = a1 + b1 := ⟨_, rfl⟩
  obtain ⟨t1, ht1⟩ : ∃ z, z = k0 + p1 := ⟨_, rfl⟩
  obtain ⟨d1, hd1⟩ : ∃ z, z = t1 % 4294967296 := ⟨_, rfl⟩
  obtain ⟨k1, hk1⟩ : ∃ z, z = t1 / 4294967296 := ⟨_, rfl⟩
  obtain ⟨p2, hp2⟩ : ∃ z, z = a2 + b2 := ⟨_, rfl⟩
  obtain ⟨t2, ht2⟩ : ∃ z, z = k1 + p2 := ⟨_, rfl⟩
  obtain ⟨d2, hd2⟩ : ∃ z, z = t2 % 4294967296 := ⟨_, rfl⟩
  obtain ⟨k2, hk2⟩ : ∃ z, z = t2 / 4294967296 := ⟨_, rfl⟩
  obtain ⟨p3, hp3⟩ : ∃ z, z = a3 + b3 := ⟨_, rfl⟩
  obtain ⟨t3, ht3⟩ : ∃ z, z = k2 + p3 := ⟨_, rfl⟩
  obtain ⟨d3, hd3⟩ : ∃ z, z = t3 % 4294967296 := ⟨_, rfl⟩
  obtain ⟨k3, hk3⟩ : ∃ z, z = t3 / 4294967296 := ⟨_, rfl⟩
  have s2 : v + t + k1 = d2 + 4294967296 * t3 := by omega
  have s1 : u + s + k0 = d1 + 4294967296 * (d2 + 4294967296 * t3) := by omega
  have s0 : x + y = d0 + 4294967296 * (d1 + 4294967296 * (d2 + 4294967296 * t3)) := by omega
  have q0 : (x + y) / 4294967296 = d1 + 4294967296 * (d2 + 4294967296 * t3) := by omega
  have q1 : (d1 + 4294967296 * (d2 + 4294967296 * t3)) / 4294967296 = d2 + 4294967296 * t3 := by omega
  have q2 : (d2 + 4294967296 * t3) / 4294967296 = t3 := by omega
  rw [q0, q1, q2] at hxy
  have e33 : d3 = t3 := by omega
  have FIN : Hid (Bv d0 d1 d2 d3 = res) := Lib.hid (FX.out d0 d1 d2 d3 (by omega) (by omega) (by omega) (by omega) (by unfold bigN; rw [e33]; exact s0))
  have r0 : bits .and .u64 ((a0 : Int) + (b0 : Int)) 4294967295 = (d0 : Int) := by rw [show ((a0 : Int) + (b0 : Int)) = (t0 : Int) by omega, hd0]; exact and32 t0 (by omega)
  have r0' : ((a0 : Int) + (b0 : Int)) / 4294967296 = (k0 : Int) := by omega
  have n1 : (a1 : Int) + (b1 : Int) = (p1 : Int) := by omega
  have w1 : (k0 : Int) + (p1 : Int) = (t1 : Int) := by omega
  have r1 : bits .and .u64 (t1 : Int) 4294967295 = (d1 : Int) := by rw [hd1]; exact and32 t1 (by omega)
  have r1' : (t1 : Int) / 4294967296 = (k1 : Int) := by omega
  have c1 : t1 < 18446744073709551616 := by omega
  have cp1 : p1 < 18446744073709551616 := by omega
  have n2 : (a2 : Int) + (b2 : Int) = (p2 : Int) := by omega
  have w2 : (k1 : Int) + (p2 : Int) = (t2 : Int) := by omega
  have r2 : bits .and .u64 (t2 : Int) 4294967295 = (d2 : Int) := by rw [hd2]; exact and32 t2 (by omega)
  have r2' : (t2 : Int) / 4294967296 = (k2 : Int) := by omega
  have c2 : t2 < 18446744073709551616 := by omega
  have cp2 : p2 < 18446744073709551616 := by omega
  have n3 : (a3 : Int) + (b3 : Int) = (p3 : Int) := by omega
  have w3 : (k2 : Int) + (p3 : Int) = (t3 : Int) := by omega
  have r3 : bits .and .u64 (t3 : Int) 4294967295 = (d3 : Int) := by rw [hd3]; exact and32 t3 (by omega)
  have r3' : (t3 : Int) / 4294967296 = (k3 : Int) := by omega
  have c3 : t3 < 18446744073709551616 := by omega
  have cp3 : p3 < 18446744073709551616 := by omega
  have n0 : (a0 : Int) + (b0 : Int) = (t0 : Int) := by omega
  rw [n0] at r0 r0'
  have c0 : t0 < 18446744073709551616 := by omega
  clear e1 e2 e3 f1 f2 f3 s0 s1 s2 q0 q1 q2 hxy e33 FX ht0 hd0 hk0 hp1 ht1 hd1 hk1 hp2 ht2 hd2 hk2 hp3 ht3 hd3 hk3 hres
  go_enter Try.func81, Try.ntmps81
  go_wp2_with fail
  have XB : Hid ((((w.alloc (.cells #[.int .u64 (a0 : Int), .int .u64 (a1 : Int), .int .u64 (a2 : Int), .int .u64 (a3 : Int)] 117)).alloc (.cells #[.int .u64 (b0 : Int), .int .u64 (b1 : Int), .int .u64 (b2 : Int), .int .u64 (b3 : Int)] 117)).alloc (.cells #[.int .u64 0, .int .u64 0, .int .u64 0, .int .u64 0] 117)).heap[w.heap.size]? = some (.cells #[.int .u64 (a0 : Int), .int .u64 (a1 : Int), .int .u64 (a2 : Int), .int .u64 (a3 : Int)] 117)) := Lib.hid (blk_alloc (blk_alloc (blk_new w _) _) _)
  have YB := Lib.hid (blk3b w (.cells #[.int .u64 (a0 : Int), .int .u64 (a1 : Int), .int .u64 (a2 : Int), .int .u64 (a3 : Int)] 117) (.cells #[.int .u64 (b0 : Int), .int .u64 (b1 : Int), .int .u64 (b2 : Int), .int .u64 (b3 : Int)] 117) (.cells #[.int .u64 0, .int .u64 0, .int .u64 0, .int .u64 0] 117))
  have ZB := Lib.hid (blk3c w (.cells #[.int .u64 (a0 : Int), .int .u64 (a1 : Int), .int .u64 (a2 : Int), .int .u64 (a3 : Int)] 117) (.cells #[.int .u64 (b0 : Int), .int .u64 (b1 : Int), .int .u64 (b2 : Int), .int .u64 (b3 : Int)] 117) (.cells #[.int .u64 0, .int .u64 0, .int .u64 0, .int .u64 0] 117))
  have NB : Hid (Below w.heap.size w (((w.alloc (.cells #[.int .u64 (a0 : Int), .int .u64 (a1 : Int), .int .u64 (a2 : Int), .int .u64 (a3 : Int)] 117)).alloc (.cells #[.int .u64 (b0 : Int), .int .u64 (b1 : Int), .int .u64 (b2 : Int), .int .u64 (b3 : Int)] 117)).alloc (.cells #[.int .u64 0, .int .u64 0, .int .u64 0, .int .u64 0] 117))) := Lib.hid (Bal (Bal (Bal (Below.refl _ _) _) _) _)
  generalize ((w.alloc (.cells #[.int .u64 (a0 : Int), .int .u64 (a1 : Int), .int .u64 (a2 : Int), .int .u64 (a3 : Int)] 117)).alloc (.cells #[.int .u64 (b0 : Int), .int .u64 (b1 : Int), .int .u64 (b2 : Int), .int .u64 (b3 : Int)] 117)).alloc (.cells #[.int .u64 0, .int .u64 0, .int .u64 0, .int .u64 0] 117) = W at *
  go_loopw [5, 6] (fun c i wr => Hid (Below w.heap.size w wr) ∧ Hid (wr.heap[w.heap.size + 1]? = some (.cells #[.int .u64 (b0 : Int), .int .u64 (b1 : Int), .int .u64 (b2 : Int), .int .u64 (b3 : Int)] 117)) ∧ Hid (wr.heap[w.heap.size + 1 + 1]? = some (.cells #[.int .u64 0, .int .u64 0, .int .u64 0, .int .u64 0] 117)) ∧ ((i = .int .i64 0 ∧ c = .int .u64 0 ∧ Hid (wr.heap[w.heap.size]? = some (.cells #[.int .u64 (a0 : Int), .int .u64 (a1 : Int), .int .u64 (a2 : Int), .int .u64 (a3 : Int)] 117))) ∨ (i = .int .i64 1 ∧ c = .int .u64 (k0 : Int) ∧ Hid (wr.heap[w.heap.size]? = some (.cells #[.int .u64 (d0 : Int), .int .u64 (a1 : Int), .int .u64 (a2 : Int), .int .u64 (a3 : Int)] 117))) ∨ (i = .int .i64 2 ∧ c = .int .u64 (k1 : Int) ∧ Hid (wr.heap[w.heap.size]? = some (.cells #[.int .u64 (d0 : Int), .int .u64 (d1 : Int), .int .u64 (a2 : Int), .int .u64 (a3 : Int)] 117))) ∨ (i = .int .i64 3 ∧ c = .int .u64 (k2 : Int) ∧ Hid (wr.heap[w.heap.size]? = some (.cells #[.int .u64 (d0 : Int), .int .u64 (d1 : Int), .int .u64 (d2 : Int), .int .u64 (a3 : Int)] 117))) ∨ (i = .int .i64 4 ∧ c = .int .u64 (k3 : Int) ∧ Hid (wr.heap[w.heap.size]? = some (.cells #[.int .u64 (d0 : Int), .int .u64 (d1 : Int), .int .u64 (d2 : Int), .int .u64 (d3 : Int)] 117))))) (fun _ i _ => 4 - (intOf i).toNat)
  case atStart => exact ⟨NB, YB, ZB, .inl ⟨rfl, rfl, XB⟩⟩
  case round =>
    clear NB YB ZB XB
    obtain ⟨NB, YB, ZB, (⟨rfl, rfl, XB⟩ | ⟨rfl, rfl, XB⟩ | ⟨rfl, rfl, XB⟩ | ⟨rfl, rfl, XB⟩ | ⟨rfl, rfl, XB⟩)⟩ := hrel
    · have ox := blk_cell XB.out 0 _ rfl
      have oy := blk_cell YB.out 0 _ rfl
      have ol := blk_lt XB.out
      have of_ := blk_frozen XB.out 0
      go_wp2_with fail
      go_quiet (fail)
      go_wp2_with fail
      refine ⟨⟨Lib.hid (Bset1 (below_drewN NB.out nq) (Nat.le_refl _) 0 _), Lib.hid (blk_set_other YB.out (by omega) 0 _), Lib.hid (blk_set_other ZB.out (by omega) 0 _), .inr (.inl ⟨rfl, rfl, Lib.hid (blk_set XB.out 0 (.int .u64 (d0 : Int)))⟩)⟩, by simp [intOf]⟩
    · have ox := blk_cell XB.out 1 _ rfl
      have oy := blk_cell YB.out 1 _ rfl
      have ol := blk_lt XB.out
      have of_ := blk_frozen XB.out 1
      go_wp2_with fail
      go_quiet (fail)
      go_wp2_with fail
      refine ⟨⟨Lib.hid (Bset1 (below_drewN NB.out nq) (Nat.le_refl _) 1 _), Lib.hid (blk_set_other YB.out (by omega) 1 _), Lib.hid (blk_set_other ZB.out (by omega) 1 _), .inr (.inr (.inl ⟨rfl, rfl, Lib.hid (blk_set XB.out 1 (.int .u64 (d1 : Int)))⟩))⟩, by simp [intOf]⟩
    · have ox := blk_cell XB.out 2 _ rfl
      have oy := blk_cell YB.out 2 _ rfl
      have ol := blk_lt XB.out
      have of_ := blk_frozen XB.out 2
      go_wp2_with fail
      go_quiet (fail)
      go_wp2_with fail
      refine ⟨⟨Lib.hid (Bset1 (below_drewN NB.out nq) (Nat.le_refl _) 2 _), Lib.hid (blk_set_other YB.out (by omega) 2 _), Lib.hid (blk_set_other ZB.out (by omega) 2 _), .inr (.inr (.inr (.inl ⟨rfl, rfl, Lib.hid (blk_set XB.out 2 (.int .u64 (d2 : Int)))⟩)))⟩, by simp [intOf]⟩
    · have ox := blk_cell XB.out 3 _ rfl
      have oy := blk_cell YB.out 3 _ rfl
      have ol := blk_lt XB.out
      have of_ := blk_frozen XB.out 3
      go_wp2_with fail
      go_quiet (fail)
      go_wp2_with fail
      refine ⟨⟨Lib.hid (Bset1 (below_drewN NB.out nq) (Nat.le_refl _) 3 _), Lib.hid (blk_set_other YB.out (by omega) 3 _), Lib.hid (blk_set_other ZB.out (by omega) 3 _), .inr (.inr (.inr (.inr (⟨rfl, rfl, Lib.hid (blk_set XB.out 3 (.int .u64 (d3 : Int)))⟩))))⟩, by simp [intOf]⟩
    · have z0 := blk_cell XB.out 0 _ rfl
      have z1 := blk_cell XB.out 1 _ rfl
      have z2 := blk_cell XB.out 2 _ rfl
      have z3 := blk_cell XB.out 3 _ rfl
      have y0 := blk_cell ZB.out 0 _ rfl
      have f0 := blk_frozen ZB.out 0
      have y1 := blk_cell ZB.out 1 _ rfl
      have f1 := blk_frozen ZB.out 1
      have y2 := blk_cell ZB.out 2 _ rfl
      have f2 := blk_frozen ZB.out 2
      have y3 := blk_cell ZB.out 3 _ rfl
      have f3 := blk_frozen ZB.out 3
      have gl := blk_lt ZB.out
      have ol := blk_lt XB.out
      go_wp2_with fail
      have Z := blk_set (blk_set (blk_set (blk_set ZB.out 0 (.int .u64 (d0 : Int))) 1 (.int .u64 (d1 : Int))) 2 (.int .u64 (d2 : Int))) 3 (.int .u64 (d3 : Int))
      have g0 := blk_cell Z 0 _ rfl
      have g1 := blk_cell Z 1 _ rfl
      have g2 := blk_cell Z 2 _ rfl
      have g3 := blk_cell Z 3 _ rfl
      refine bodyPost_ret (v := Bv d0 d1 d2 d3) (by simp [results, Try.results81, go_sem, g0, g1, g2, g3]) rfl ⟨by rw [FIN.out], Bset1 (Bset1 (Bset1 (Bset1 NB.out (by omega) _ _) (by omega) _ _) (by omega) _ _) (by omega) _ _⟩
set_option maxRecDepth 100000 in
set_option maxHeartbeats 8000000 in
theorem refRest_calls (x y : Nat) (w : World) (hx : sm4 x) (hy : sm4 y) (hyx : y ≤ x) :
    Calls Try.prog 83 #[Dv x, Dv y] w fun e w' => e = .returned (Dv (x - y)) ∧ Below w.heap.size w w' := by
  have FX : Hid (∀ d0 d1 d2 d3 : Nat, d0 < 4294967296 → d1 < 4294967296 → d2 < 4294967296 → d3 < 4294967296 → x - y = bigN d0 d1 d2 d3 → Bv d0 d1 d2 d3 = Dv (x - y)) := Lib.hid (fun d0 d1 d2 d3 h0 h1 h2 h3 h => dv_of h0 h1 h2 h3 h)
  obtain ⟨u, v, e1, e2, e3⟩ := dg_split hx
  obtain ⟨s, t, f1, f2, f3⟩ := dg_split hy
  have l0 := dg_lt x 0
  have l1 := dg_lt x 1
  have l2 := dg_lt x 2
  have l3 := dg_lt x 3
  have m0 := dg_lt y 0
  have m1 := dg_lt y 1
  have m2 := dg_lt y 2
  have m3 := dg_lt y 3
  generalize hres : Dv (x - y) = res at *
  unfold Dv
  generalize dg x 0 = a0 at *
  generalize dg x 1 = a1 at *
  generalize dg x 2 = a2 at *
  generalize dg x 3 = a3 at *
  generalize dg y 0 = b0 at *
  generalize dg y 1 = b1 at *
  generalize dg y 2 = b2 at *
  generalize dg y 3 = b3 at *
  obtain ⟨h0, hh0⟩ : ∃ z, z = a0 + 4294967295 := ⟨_, rfl⟩
  obtain ⟨g0, hg0⟩ : ∃ z, z = h0 + 1 := ⟨_, rfl⟩
  obtain ⟨e0', he0⟩ : ∃ z, z + b0 = g0 := ⟨g0 - b0, by omega⟩
  obtain ⟨t0, ht0⟩ : ∃ z, z = e0' := ⟨_, rfl⟩
  obtain ⟨d0, hd0⟩ : ∃ z, z = t0 % 4294967296 := ⟨_, rfl⟩
  obtain ⟨s0, hs0⟩ : ∃ z, z = t0 / 4294967296 := ⟨_, rfl⟩
  obtain ⟨o0, ho0⟩ : ∃ z, z + s0 = 1 := ⟨1 - s0, by omega⟩
  obtain ⟨h1, hh1⟩ : ∃ z, z = a1 + 4294967295 := ⟨_, rfl⟩
  obtain ⟨g1, hg1⟩ : ∃ z, z = h1 + 1 := ⟨_, rfl⟩
  obtain ⟨e1', he1⟩ : ∃ z, z + b1 = g1 := ⟨g1 - b1, by omega⟩
  obtain ⟨t1, ht1⟩ : ∃ z, z + o0 = e1' := ⟨e1' - o0, by omega⟩
  obtain ⟨d1, hd1⟩ : ∃ z, z = t1 % 4294967296 := ⟨_, rfl⟩
  obtain ⟨s1, hs1⟩ : ∃ z, z = t1 / 4294967296 := ⟨_, rfl⟩
  obtain ⟨o1, ho1⟩ : ∃ z, z + s1 = 1 := ⟨1 - s1, by omega⟩
  obtain ⟨h2, hh2⟩ : ∃ z, z = a2 + 4294967295 := ⟨_, rfl⟩
  obtain ⟨g2, hg2⟩ : ∃ z, z = h2 + 1 := ⟨_, rfl⟩
  obtain ⟨e2', he2⟩ : ∃ z, z + b2 = g2 := ⟨g2 - b2, by omega⟩
  obtain ⟨t2, ht2⟩ : ∃ z, z + o1 = e2' := ⟨e2' - o1, by omega⟩
  obtain ⟨d2, hd2⟩ : ∃ z, z = t2 % 4294967296 := ⟨_, rfl⟩
  obtain ⟨s2, hs2⟩ : ∃ z, z = t2 / 4294967296 := ⟨_, rfl⟩
  obtain ⟨o2, ho2⟩ : ∃ z, z + s2 = 1 := ⟨1 - s2, by omega⟩
  obtain ⟨h3, hh3⟩ : ∃ z, z = a3 + 4294967295 := ⟨_, rfl⟩
  obtain ⟨g3, hg3⟩ : ∃ z, z = h3 + 1 := ⟨_, rfl⟩
  obtain ⟨e3', he3⟩ : ∃ z, z + b3 = g3 := ⟨g3 - b3, by omega⟩
  obtain ⟨t3, ht3⟩ : ∃ z, z + o2 = e3' := ⟨e3' - o2, by omega⟩
  obtain ⟨d3, hd3⟩ : ∃ z, z = t3 % 4294967296 := ⟨_, rfl⟩
  obtain ⟨s3, hs3⟩ : ∃ z, z = t3 / 4294967296 := ⟨_, rfl⟩
  obtain ⟨o3, ho3⟩ : ∃ z, z + s3 = 1 := ⟨1 - s3, by omega⟩
  have o30 : o3 = 0 := by
    by_cases e : o3 = 0
    · exact e
    · exfalso
      have k3 : a3 + 1 ≤ b3 + o2 := by omega
      have k2 : o2 = 1 → a2 + 1 ≤ b2 + o1 := fun h => by omega
      have k1 : o1 = 1 → a1 + 1 ≤ b1 + o0 := fun h => by omega
      have k0 : o0 = 1 → a0 + 1 ≤ b0 := fun h => by omega
      have v2 : v + 1 ≤ t + o1 := by omega
      have v1 : u + 1 ≤ s + o0 := by omega
      have v0 : x + 1 ≤ y := by omega
      omega
  have q2' : v = t + o1 + d2 + 4294967296 * d3 := by omega
  have q1' : u = s + o0 + (d1 + 4294967296 * (d2 + 4294967296 * d3)) := by omega
  have q0' : x = y + (d0 + 4294967296 * (d1 + 4294967296 * (d2 + 4294967296 * d3))) := by omega
  have FIN : Hid (Bv d0 d1 d2 d3 = res) := Lib.hid (FX.out d0 d1 d2 d3 (by omega) (by omega) (by omega) (by omega) (by unfold bigN; omega))
  have n0 : (a0 : Int) + 4294967295 = (h0 : Int) := by omega
  have nn0 : (h0 : Int) + 1 = (g0 : Int) := by omega
  have ne0 : (g0 : Int) - (b0 : Int) = (e0' : Int) := by omega
  have nt0 : (e0' : Int) = (t0 : Int) := by omega
  have r0 : bits .and .u64 (t0 : Int) 4294967295 = (d0 : Int) := by rw [hd0]; exact and32 t0 (by omega)
  have r0' : (t0 : Int) / 4294967296 = (s0 : Int) := by omega
  have ro0 : (1 : Int) - (s0 : Int) = (o0 : Int) := by omega
  have c0 : t0 < 18446744073709551616 := by omega
  have ch0 : h0 < 18446744073709551616 := by omega
  have cg0 : g0 < 18446744073709551616 := by omega
  have ce0 : e0' < 18446744073709551616 := by omega
  have n1 : (a1 : Int) + 4294967295 = (h1 : Int) := by omega
  have nn1 : (h1 : Int) + 1 = (g1 : Int) := by omega
  have ne1 : (g1 : Int) - (b1 : Int) = (e1' : Int) := by omega
  have nt1 : (e1' : Int) - (o0 : Int) = (t1 : Int) := by omega
  have r1 : bits .and .u64 (t1 : Int) 4294967295 = (d1 : Int) := by rw [hd1]; exact and32 t1 (by omega)
  have r1' : (t1 : Int) / 4294967296 = (s1 : Int) := by omega
  have ro1 : (1 : Int) - (s1 : Int) = (o1 : Int) := by omega
  have c1 : t1 < 18446744073709551616 := by omega
  have ch1 : h1 < 18446744073709551616 := by omega
  have cg1 : g1 < 18446744073709551616 := by omega
  have ce1 : e1' < 18446744073709551616 := by omega
  have n2 : (a2 : Int) + 4294967295 = (h2 : Int) := by omega
  have nn2 : (h2 : Int) + 1 = (g2 : Int) := by omega
  have ne2 : (g2 : Int) - (b2 : Int) = (e2' : Int) := by omega
  have nt2 : (e2' : Int) - (o1 : Int) = (t2 : Int) := by omega
  have r2 : bits .and .u64 (t2 : Int) 4294967295 = (d2 : Int) := by rw [hd2]; exact and32 t2 (by omega)
  have r2' : (t2 : Int) / 4294967296 = (s2 : Int) := by omega
  have ro2 : (1 : Int) - (s2 : Int) = (o2 : Int) := by omega
  have c2 : t2 < 18446744073709551616 := by omega
  have ch2 : h2 < 18446744073709551616 := by omega
  have cg2 : g2 < 18446744073709551616 := by omega
  have ce2 : e2' < 18446744073709551616 := by omega
  have n3 : (a3 : Int) + 4294967295 = (h3 : Int) := by omega
  have nn3 : (h3 : Int) + 1 = (g3 : Int) := by omega
  have ne3 : (g3 : Int) - (b3 : Int) = (e3' : Int) := by omega
  have nt3 : (e3' : Int) - (o2 : Int) = (t3 : Int) := by omega
  have r3 : bits .and .u64 (t3 : Int) 4294967295 = (d3 : Int) := by rw [hd3]; exact and32 t3 (by omega)
  have r3' : (t3 : Int) / 4294967296 = (s3 : Int) := by omega
  have ro3 : (1 : Int) - (s3 : Int) = (o3 : Int) := by omega
  have c3 : t3 < 18446744073709551616 := by omega
  have ch3 : h3 < 18446744073709551616 := by omega
  have cg3 : g3 < 18446744073709551616 := by omega
  have ce3 : e3' < 18446744073709551616 := by omega
  clear hh0 hg0 he0 ht0 hd0 hs0 ho0 hh1 hg1 he1 ht1 hd1 hs1 ho1 hh2 hg2 he2 ht2 hd2 hs2 ho2 hh3 hg3 he3 ht3 hd3 hs3 ho3 e1 e2 e3 f1 f2 f3 q2' q1' q0' FX hres o30 hyx
  go_enter Try.func83, Try.ntmps83
  go_wp2_with fail
  have XB : Hid ((((w.alloc (.cells #[.int .u64 (a0 : Int), .int .u64 (a1 : Int), .int .u64 (a2 : Int), .int .u64 (a3 : Int)] 117)).alloc (.cells #[.int .u64 (b0 : Int), .int .u64 (b1 : Int), .int .u64 (b2 : Int), .int .u64 (b3 : Int)] 117)).alloc (.cells #[.int .u64 0, .int .u64 0, .int .u64 0, .int .u64 0] 117)).heap[w.heap.size]? = some (.cells #[.int .u64 (a0 : Int), .int .u64 (a1 : Int), .int .u64 (a2 : Int), .int .u64 (a3 : Int)] 117)) := Lib.hid (blk_alloc (blk_alloc (blk_new w _) _) _)
  have YB := Lib.hid (blk3b w (.cells #[.int .u64 (a0 : Int), .int .u64 (a1 : Int), .int .u64 (a2 : Int), .int .u64 (a3 : Int)] 117) (.cells #[.int .u64 (b0 : Int), .int .u64 (b1 : Int), .int .u64 (b2 : Int), .int .u64 (b3 : Int)] 117) (.cells #[.int .u64 0, .int .u64 0, .int .u64 0, .int .u64 0] 117))
  have ZB := Lib.hid (blk3c w (.cells #[.int .u64 (a0 : Int), .int .u64 (a1 : Int), .int .u64 (a2 : Int), .int .u64 (a3 : Int)] 117) (.cells #[.int .u64 (b0 : Int), .int .u64 (b1 : Int), .int .u64 (b2 : Int), .int .u64 (b3 : Int)] 117) (.cells #[.int .u64 0, .int .u64 0, .int .u64 0, .int .u64 0] 117))
  have NB : Hid (Below w.heap.size w (((w.alloc (.cells #[.int .u64 (a0 : Int), .int .u64 (a1 : Int), .int .u64 (a2 : Int), .int .u64 (a3 : Int)] 117)).alloc (.cells #[.int .u64 (b0 : Int), .int .u64 (b1 : Int), .int .u64 (b2 : Int), .int .u64 (b3 : Int)] 117)).alloc (.cells #[.int .u64 0, .int .u64 0, .int .u64 0, .int .u64 0] 117))) := Lib.hid (Bal (Bal (Bal (Below.refl _ _) _) _) _)
  generalize ((w.alloc (.cells #[.int .u64 (a0 : Int), .int .u64 (a1 : Int), .int .u64 (a2 : Int), .int .u64 (a3 : Int)] 117)).alloc (.cells #[.int .u64 (b0 : Int), .int .u64 (b1 : Int), .int .u64 (b2 : Int), .int .u64 (b3 : Int)] 117)).alloc (.cells #[.int .u64 0, .int .u64 0, .int .u64 0, .int .u64 0] 117) = W at *
  go_loopw [5, 6] (fun c i wr => Hid (Below w.heap.size w wr) ∧ Hid (wr.heap[w.heap.size + 1]? = some (.cells #[.int .u64 (b0 : Int), .int .u64 (b1 : Int), .int .u64 (b2 : Int), .int .u64 (b3 : Int)] 117)) ∧ Hid (wr.heap[w.heap.size + 1 + 1]? = some (.cells #[.int .u64 0, .int .u64 0, .int .u64 0, .int .u64 0] 117)) ∧ ((i = .int .i64 0 ∧ c = .int .u64 0 ∧ Hid (wr.heap[w.heap.size]? = some (.cells #[.int .u64 (a0 : Int), .int .u64 (a1 : Int), .int .u64 (a2 : Int), .int .u64 (a3 : Int)] 117))) ∨ (i = .int .i64 1 ∧ c = .int .u64 (o0 : Int) ∧ Hid (wr.heap[w.heap.size]? = some (.cells #[.int .u64 (d0 : Int), .int .u64 (a1 : Int), .int .u64 (a2 : Int), .int .u64 (a3 : Int)] 117))) ∨ (i = .int .i64 2 ∧ c = .int .u64 (o1 : Int) ∧ Hid (wr.heap[w.heap.size]? = some (.cells #[.int .u64 (d0 : Int), .int .u64 (d1 : Int), .int .u64 (a2 : Int), .int .u64 (a3 : Int)] 117))) ∨ (i = .int .i64 3 ∧ c = .int .u64 (o2 : Int) ∧ Hid (wr.heap[w.heap.size]? = some (.cells #[.int .u64 (d0 : Int), .int .u64 (d1 : Int), .int .u64 (d2 : Int), .int .u64 (a3 : Int)] 117))) ∨ (i = .int .i64 4 ∧ c = .int .u64 (o3 : Int) ∧ Hid (wr.heap[w.heap.size]? = some (.cells #[.int .u64 (d0 : Int), .int .u64 (d1 : Int), .int .u64 (d2 : Int), .int .u64 (d3 : Int)] 117))))) (fun _ i _ => 4 - (intOf i).toNat)
  case atStart => exact ⟨NB, YB, ZB, .inl ⟨rfl, rfl, XB⟩⟩
  case round =>
    clear NB YB ZB XB
    obtain ⟨NB, YB, ZB, (⟨rfl, rfl, XB⟩ | ⟨rfl, rfl, XB⟩ | ⟨rfl, rfl, XB⟩ | ⟨rfl, rfl, XB⟩ | ⟨rfl, rfl, XB⟩)⟩ := hrel
    · have ox := blk_cell XB.out 0 _ rfl
      have oy := blk_cell YB.out 0 _ rfl
      have ol := blk_lt XB.out
      have of_ := blk_frozen XB.out 0
      go_wp2_with fail
      go_quiet (fail)
      go_wp2_with fail
      refine ⟨⟨Lib.hid (Bset1 (below_drewN NB.out nq) (Nat.le_refl _) 0 _), Lib.hid (blk_set_other YB.out (by omega) 0 _), Lib.hid (blk_set_other ZB.out (by omega) 0 _), .inr (.inl ⟨rfl, rfl, Lib.hid (blk_set XB.out 0 (.int .u64 (d0 : Int)))⟩)⟩, by simp [intOf]⟩
    · have ox := blk_cell XB.out 1 _ rfl
      have oy := blk_cell YB.out 1 _ rfl
      have ol := blk_lt XB.out
      have of_ := blk_frozen XB.out 1
      go_wp2_with fail
      go_quiet (fail)
      go_wp2_with fail
      refine ⟨⟨Lib.hid (Bset1 (below_drewN NB.out nq) (Nat.le_refl _) 1 _), Lib.hid (blk_set_other YB.out (by omega) 1 _), Lib.hid (blk_set_other ZB.out (by omega) 1 _), .inr (.inr (.inl ⟨rfl, rfl, Lib.hid (blk_set XB.out 1 (.int .u64 (d1 : Int)))⟩))⟩, by simp [intOf]⟩
    · have ox := blk_cell XB.out 2 _ rfl
      have oy := blk_cell YB.out 2 _ rfl
      have ol := blk_lt XB.out
      have of_ := blk_frozen XB.out 2
      go_wp2_with fail
      go_quiet (fail)
      go_wp2_with fail
      refine ⟨⟨Lib.hid (Bset1 (below_drewN NB.out nq) (Nat.le_refl _) 2 _), Lib.hid (blk_set_other YB.out (by omega) 2 _), Lib.hid (blk_set_other ZB.out (by omega) 2 _), .inr (.inr (.inr (.inl ⟨rfl, rfl, Lib.hid (blk_set XB.out 2 (.int .u64 (d2 : Int)))⟩)))⟩, by simp [intOf]⟩
    · have ox := blk_cell XB.out 3 _ rfl
      have oy := blk_cell YB.out 3 _ rfl
      have ol := blk_lt XB.out
      have of_ := blk_frozen XB.out 3
      go_wp2_with fail
      go_quiet (fail)
      go_wp2_with fail
      refine ⟨⟨Lib.hid (Bset1 (below_drewN NB.out nq) (Nat.le_refl _) 3 _), Lib.hid (blk_set_other YB.out (by omega) 3 _), Lib.hid (blk_set_other ZB.out (by omega) 3 _), .inr (.inr (.inr (.inr (⟨rfl, rfl, Lib.hid (blk_set XB.out 3 (.int .u64 (d3 : Int)))⟩))))⟩, by simp [intOf]⟩
    · have z0 := blk_cell XB.out 0 _ rfl
      have z1 := blk_cell XB.out 1 _ rfl
      have z2 := blk_cell XB.out 2 _ rfl
      have z3 := blk_cell XB.out 3 _ rfl
      have y0 := blk_cell ZB.out 0 _ rfl
      have f0 := blk_frozen ZB.out 0
      have y1 := blk_cell ZB.out 1 _ rfl
      have f1 := blk_frozen ZB.out 1
      have y2 := blk_cell ZB.out 2 _ rfl
      have f2 := blk_frozen ZB.out 2
      have y3 := blk_cell ZB.out 3 _ rfl
      have f3 := blk_frozen ZB.out 3
      have gl := blk_lt ZB.out
      have ol := blk_lt XB.out
      go_wp2_with fail
      have Z := blk_set (blk_set (blk_set (blk_set ZB.out 0 (.int .u64 (d0 : Int))) 1 (.int .u64 (d1 : Int))) 2 (.int .u64 (d2 : Int))) 3 (.int .u64 (d3 : Int))
      have g0 := blk_cell Z 0 _ rfl
      have g1 := blk_cell Z 1 _ rfl
      have g2 := blk_cell Z 2 _ rfl
      have g3 := blk_cell Z 3 _ rfl
      refine bodyPost_ret (v := Bv d0 d1 d2 d3) (by simp [results, Try.results83, go_sem, g0, g1, g2, g3]) rfl ⟨by rw [FIN.out], Bset1 (Bset1 (Bset1 (Bset1 NB.out (by omega) _ _) (by omega) _ _) (by omega) _ _) (by omega) _ _⟩
end Go.Proofs.Ytfangplfbbgphaa
