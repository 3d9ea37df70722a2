/- Several texts in one. -/
import Derived.Test.YtfangplfbbgphaaGreatDoorMN00
namespace Go.Proofs.YtfangplfbbgphaaGreatDoor
open Go.ChangeShapes Go.WideShapes Go.ChangeAt Go.RowKit
set_option linter.unusedVariables false
set_option maxRecDepth 100000
set_option linter.unusedSimpArgs false
attribute [local go_sem ↓] Go.wp_at_zero Go.wp_at_succ
theorem sq_le {n : Int} (h1 : -20 ≤ n) (h2 : n ≤ 20) : 0 ≤ n * n ∧ n * n ≤ 400 := by
 have e : n * n = ((n.natAbs * n.natAbs : Nat) : Int) := by rw [Int.natCast_mul]; exact (Int.natAbs_mul_self' n).symm
 have h3 : n.natAbs ≤ 20 := by omega
 have h4 := Nat.mul_le_mul h3 h3
 omega
theorem two_le {n d : Int} (h1 : -20 ≤ n) (h2 : n ≤ 20) (h3 : 1 ≤ d) (h4 : d ≤ 20) : -800 ≤ 2 * n * d ∧ 2 * n * d ≤ 800 := by
 have a := Int.mul_le_mul_of_nonneg_right (show 2 * n ≤ 40 by omega) (show 0 ≤ d by omega)
 have b := Int.mul_le_mul_of_nonneg_right (show -40 ≤ 2 * n by omega) (show 0 ≤ d by omega)
 omega
def arC (n d : Int) : Int × Int × Int := makeF (d * d - n * n) (d * d + n * n)
def arK (n d : Int) : Int × Int × Int := makeF (2 * n * d) (d * d + n * n)
set_option maxRecDepth 100000 in
set_option maxHeartbeats 4000000 in
theorem around_calls (n d : Int) (h : prmB n d = true) (w : World) : Calls Tryz.prog 96 #[Fv n d] w fun e w' => e = .returned (.tuple #[Fv (arC n d).1 (arC n d).2.1, Fv (arK n d).1 (arK n d).2.1]) ∧ Below w.heap.size w w' := by
 have NN := Lib.hid (Below.refl w.heap.size w)
 obtain ⟨_, h1, h2, h3, h4⟩ := prm_facts h
 clear h
 obtain ⟨p1, p2⟩ := sq_le h3 h4
 obtain ⟨q1, q2⟩ := sq_le (show -20 ≤ d by omega) h2
 obtain ⟨k1, k2⟩ := two_le h3 h4 h1 h2
 obtain ⟨c, hc⟩ : ∃ c, arC n d = c := ⟨_, rfl⟩
 obtain ⟨s, hs⟩ : ∃ s, arK n d = s := ⟨_, rfl⟩
 rw [hc, hs]
 unfold arC at hc
 unfold arK at hs
 have t1 : -40 ≤ 2 * n := by omega
 have t2 : 2 * n ≤ 40 := by omega
 obtain ⟨m, hm⟩ : ∃ m, 2 * n = m := ⟨_, rfl⟩
 rw [hm] at hs k1 k2 t1 t2
 obtain ⟨q, hq⟩ : ∃ q, d * d = q := ⟨_, rfl⟩
 obtain ⟨p, hp⟩ : ∃ p, n * n = p := ⟨_, rfl⟩
 obtain ⟨k, hk⟩ : ∃ k, m * d = k := ⟨_, rfl⟩
 rw [hq, hp] at hc
 rw [hq, hp, hk] at hs
 rw [hk] at k1 k2
 rw [hq] at q1 q2
 rw [hp] at p1 p2
 have C1 := Lib.hid (fun W => make_calls (q - p) (q + p) W (by omega) (by omega) (by omega) (by omega))
 have C2 := Lib.hid (fun W => make_calls k (q + p) W (by omega) (by omega) (by omega) (by omega))
 rw [hc] at C1
 rw [hs] at C2
 clear hc hs
 obtain ⟨c1, c2, c3⟩ := c
 obtain ⟨s1, s2, s3⟩ := s
 go_enter Tryz.func96, Tryz.ntmps96
 go_wp2_with fail
 have P : Hid ((((w.alloc (.cells #[.int .i64 n, .int .i64 d] 36)).alloc (.cells #[.int .i64 0, .int .i64 0] 36)).alloc (.cells #[.int .i64 0, .int .i64 0] 36)).heap[w.heap.size]? = some (.cells #[.int .i64 n, .int .i64 d] 36)) := Lib.hid (blk_alloc (blk_alloc (blk_new w _) _) _)
 have C : Hid ((((w.alloc (.cells #[.int .i64 n, .int .i64 d] 36)).alloc (.cells #[.int .i64 0, .int .i64 0] 36)).alloc (.cells #[.int .i64 0, .int .i64 0] 36)).heap[w.heap.size + 1]? = some (.cells #[.int .i64 0, .int .i64 0] 36)) := Lib.hid (blk_alloc (blk_at _ (by simp)) _)
 have K : Hid ((((w.alloc (.cells #[.int .i64 n, .int .i64 d] 36)).alloc (.cells #[.int .i64 0, .int .i64 0] 36)).alloc (.cells #[.int .i64 0, .int .i64 0] 36)).heap[w.heap.size + 1 + 1]? = some (.cells #[.int .i64 0, .int .i64 0] 36)) := Lib.hid (blk_at _ (by simp))
 replace NN : Hid (Below w.heap.size w (((w.alloc (.cells #[.int .i64 n, .int .i64 d] 36)).alloc (.cells #[.int .i64 0, .int .i64 0] 36)).alloc (.cells #[.int .i64 0, .int .i64 0] 36))) := Lib.hid (Bal (Bal (Bal NN.out _) _) _)
 generalize (((w.alloc (.cells #[.int .i64 n, .int .i64 d] 36)).alloc (.cells #[.int .i64 0, .int .i64 0] 36)).alloc (.cells #[.int .i64 0, .int .i64 0] 36)) = W1 at *
 have c_P_0 := blk_cell P.out 0 _ rfl
 have f_P_0 := blk_frozen P.out 0
 have c_P_1 := blk_cell P.out 1 _ rfl
 have f_P_1 := blk_frozen P.out 1
 have l_P := blk_lt P.out
 go_quiet (fail)
 clear c_P_0 f_P_0 c_P_1 f_P_1 l_P
 replace P := Lib.hid (blk_drewN P.out nq)
 replace C := Lib.hid (blk_drewN C.out nq)
 replace K := Lib.hid (blk_drewN K.out nq)
 replace NN := Lib.hid (below_drewN NN.out nq)
 generalize W1.drewN nq = W2 at *
 go_wp2_with fail
 refine (C1.out _).mono ?_
 rintro e w2 ⟨rfl, hb⟩
 replace NN := Lib.hid (Bgo NN.out hb)
 replace P := Lib.hid (blk_next hb P.out)
 replace C := Lib.hid (blk_next hb C.out)
 replace K := Lib.hid (blk_next hb K.out)
 clear hb
 have c_C_0 := blk_cell C.out 0 _ rfl
 have f_C_0 := blk_frozen C.out 0
 have c_C_1 := blk_cell C.out 1 _ rfl
 have f_C_1 := blk_frozen C.out 1
 have l_C := blk_lt C.out
 go_wp2_with fail
 clear c_C_0 f_C_0 c_C_1 f_C_1 l_C
 replace P : Hid (((w2.setCell ⟨w.heap.size + 1, 0, none⟩ (.int .i64 c1)).setCell ⟨w.heap.size + 1, 1, none⟩ (.int .i64 c2)).heap[w.heap.size]? = some (.cells #[.int .i64 n, .int .i64 d] 36)) := Lib.hid (blk_set_other (b' := w.heap.size + 1) (blk_set_other (b' := w.heap.size + 1) (P.out) (by omega) 0 (.int .i64 c1)) (by omega) 1 (.int .i64 c2))
 replace C : Hid (((w2.setCell ⟨w.heap.size + 1, 0, none⟩ (.int .i64 c1)).setCell ⟨w.heap.size + 1, 1, none⟩ (.int .i64 c2)).heap[w.heap.size + 1]? = some (.cells #[.int .i64 c1, .int .i64 c2] 36)) := Lib.hid (blk_set (blk_set (C.out) 0 (.int .i64 c1)) 1 (.int .i64 c2))
 replace K : Hid (((w2.setCell ⟨w.heap.size + 1, 0, none⟩ (.int .i64 c1)).setCell ⟨w.heap.size + 1, 1, none⟩ (.int .i64 c2)).heap[w.heap.size + 1 + 1]? = some (.cells #[.int .i64 0, .int .i64 0] 36)) := Lib.hid (blk_set_other (b' := w.heap.size + 1) (blk_set_other (b' := w.heap.size + 1) (K.out) (by omega) 0 (.int .i64 c1)) (by omega) 1 (.int .i64 c2))
 replace NN := Lib.hid (Bset1 (Bset1 (NN.out) (show w.heap.size ≤ w.heap.size + 1 by omega) 0 (.int .i64 c1)) (show w.heap.size ≤ w.heap.size + 1 by omega) 1 (.int .i64 c2))
 generalize ((w2.setCell ⟨w.heap.size + 1, 0, none⟩ (.int .i64 c1)).setCell ⟨w.heap.size + 1, 1, none⟩ (.int .i64 c2)) = W3 at *
 refine (C2.out _).mono ?_
 rintro e w4 ⟨rfl, hb⟩
 replace NN := Lib.hid (Bgo NN.out hb)
 replace P := Lib.hid (blk_next hb P.out)
 replace C := Lib.hid (blk_next hb C.out)
 replace K := Lib.hid (blk_next hb K.out)
 clear hb
 have c_K_0 := blk_cell K.out 0 _ rfl
 have f_K_0 := blk_frozen K.out 0
 have c_K_1 := blk_cell K.out 1 _ rfl
 have f_K_1 := blk_frozen K.out 1
 have l_K := blk_lt K.out
 go_wp2_with fail
 clear c_K_0 f_K_0 c_K_1 f_K_1 l_K
 replace P : Hid (((w4.setCell ⟨w.heap.size + 1 + 1, 0, none⟩ (.int .i64 s1)).setCell ⟨w.heap.size + 1 + 1, 1, none⟩ (.int .i64 s2)).heap[w.heap.size]? = some (.cells #[.int .i64 n, .int .i64 d] 36)) := Lib.hid (blk_set_other (b' := w.heap.size + 1 + 1) (blk_set_other (b' := w.heap.size + 1 + 1) (P.out) (by omega) 0 (.int .i64 s1)) (by omega) 1 (.int .i64 s2))
 replace C : Hid (((w4.setCell ⟨w.heap.size + 1 + 1, 0, none⟩ (.int .i64 s1)).setCell ⟨w.heap.size + 1 + 1, 1, none⟩ (.int .i64 s2)).heap[w.heap.size + 1]? = some (.cells #[.int .i64 c1, .int .i64 c2] 36)) := Lib.hid (blk_set_other (b' := w.heap.size + 1 + 1) (blk_set_other (b' := w.heap.size + 1 + 1) (C.out) (by omega) 0 (.int .i64 s1)) (by omega) 1 (.int .i64 s2))
 replace K : Hid (((w4.setCell ⟨w.heap.size + 1 + 1, 0, none⟩ (.int .i64 s1)).setCell ⟨w.heap.size + 1 + 1, 1, none⟩ (.int .i64 s2)).heap[w.heap.size + 1 + 1]? = some (.cells #[.int .i64 s1, .int .i64 s2] 36)) := Lib.hid (blk_set (blk_set (K.out) 0 (.int .i64 s1)) 1 (.int .i64 s2))
 replace NN := Lib.hid (Bset1 (Bset1 (NN.out) (show w.heap.size ≤ w.heap.size + 1 + 1 by omega) 0 (.int .i64 s1)) (show w.heap.size ≤ w.heap.size + 1 + 1 by omega) 1 (.int .i64 s2))
 generalize ((w4.setCell ⟨w.heap.size + 1 + 1, 0, none⟩ (.int .i64 s1)).setCell ⟨w.heap.size + 1 + 1, 1, none⟩ (.int .i64 s2)) = W5 at *
 have c_C_0 := blk_cell C.out 0 _ rfl
 have f_C_0 := blk_frozen C.out 0
 have c_C_1 := blk_cell C.out 1 _ rfl
 have f_C_1 := blk_frozen C.out 1
 have l_C := blk_lt C.out
 have c_K_0 := blk_cell K.out 0 _ rfl
 have f_K_0 := blk_frozen K.out 0
 have c_K_1 := blk_cell K.out 1 _ rfl
 have f_K_1 := blk_frozen K.out 1
 have l_K := blk_lt K.out
 go_region
 clear c_C_0 f_C_0 c_C_1 f_C_1 l_C c_K_0 f_K_0 c_K_1 f_K_1 l_K
 replace P : Hid (((((W5.setCell ⟨w.heap.size + 1, 0, none⟩ (.int .i64 c1)).setCell ⟨w.heap.size + 1, 1, none⟩ (.int .i64 c2)).setCell ⟨w.heap.size + 1 + 1, 0, none⟩ (.int .i64 s1)).setCell ⟨w.heap.size + 1 + 1, 1, none⟩ (.int .i64 s2)).heap[w.heap.size]? = some (.cells #[.int .i64 n, .int .i64 d] 36)) := Lib.hid (blk_set_other (b' := w.heap.size + 1 + 1) (blk_set_other (b' := w.heap.size + 1 + 1) (blk_set_other (b' := w.heap.size + 1) (blk_set_other (b' := w.heap.size + 1) (P.out) (by omega) 0 (.int .i64 c1)) (by omega) 1 (.int .i64 c2)) (by omega) 0 (.int .i64 s1)) (by omega) 1 (.int .i64 s2))
 replace C : Hid (((((W5.setCell ⟨w.heap.size + 1, 0, none⟩ (.int .i64 c1)).setCell ⟨w.heap.size + 1, 1, none⟩ (.int .i64 c2)).setCell ⟨w.heap.size + 1 + 1, 0, none⟩ (.int .i64 s1)).setCell ⟨w.heap.size + 1 + 1, 1, none⟩ (.int .i64 s2)).heap[w.heap.size + 1]? = some (.cells #[.int .i64 c1, .int .i64 c2] 36)) := Lib.hid (blk_set_other (b' := w.heap.size + 1 + 1) (blk_set_other (b' := w.heap.size + 1 + 1) (blk_set (blk_set (C.out) 0 (.int .i64 c1)) 1 (.int .i64 c2)) (by omega) 0 (.int .i64 s1)) (by omega) 1 (.int .i64 s2))
 replace K : Hid (((((W5.setCell ⟨w.heap.size + 1, 0, none⟩ (.int .i64 c1)).setCell ⟨w.heap.size + 1, 1, none⟩ (.int .i64 c2)).setCell ⟨w.heap.size + 1 + 1, 0, none⟩ (.int .i64 s1)).setCell ⟨w.heap.size + 1 + 1, 1, none⟩ (.int .i64 s2)).heap[w.heap.size + 1 + 1]? = some (.cells #[.int .i64 s1, .int .i64 s2] 36)) := Lib.hid (blk_set (blk_set (blk_set_other (b' := w.heap.size + 1) (blk_set_other (b' := w.heap.size + 1) (K.out) (by omega) 0 (.int .i64 c1)) (by omega) 1 (.int .i64 c2)) 0 (.int .i64 s1)) 1 (.int .i64 s2))
 replace NN := Lib.hid (Bset1 (Bset1 (Bset1 (Bset1 (NN.out) (show w.heap.size ≤ w.heap.size + 1 by omega) 0 (.int .i64 c1)) (show w.heap.size ≤ w.heap.size + 1 by omega) 1 (.int .i64 c2)) (show w.heap.size ≤ w.heap.size + 1 + 1 by omega) 0 (.int .i64 s1)) (show w.heap.size ≤ w.heap.size + 1 + 1 by omega) 1 (.int .i64 s2))
 generalize ((((W5.setCell ⟨w.heap.size + 1, 0, none⟩ (.int .i64 c1)).setCell ⟨w.heap.size + 1, 1, none⟩ (.int .i64 c2)).setCell ⟨w.heap.size + 1 + 1, 0, none⟩ (.int .i64 s1)).setCell ⟨w.heap.size + 1 + 1, 1, none⟩ (.int .i64 s2)) = W6 at *
 have HDRW := Lib.hid (Below.drew (Below.refl W6.heap.size W6))
 replace NN := Lib.hid (Bgo NN.out HDRW.out)
 replace P := Lib.hid (blk_next HDRW.out P.out)
 replace C := Lib.hid (blk_next HDRW.out C.out)
 replace K := Lib.hid (blk_next HDRW.out K.out)
 clear HDRW
 have c_C_0 := blk_cell C.out 0 _ rfl
 have f_C_0 := blk_frozen C.out 0
 have c_C_1 := blk_cell C.out 1 _ rfl
 have f_C_1 := blk_frozen C.out 1
 have l_C := blk_lt C.out
 have c_K_0 := blk_cell K.out 0 _ rfl
 have f_K_0 := blk_frozen K.out 0
 have c_K_1 := blk_cell K.out 1 _ rfl
 have f_K_1 := blk_frozen K.out 1
 have l_K := blk_lt K.out
 go_wp2_with fail
 exact bodyPost_ret (v := .tuple #[Fv c1 c2, Fv s1 s2]) (by simp [results, Tryz.results96, go_sem, c_C_0, c_C_1, c_K_0, c_K_1]) rfl ⟨rfl, NN.out⟩
end Go.Proofs.YtfangplfbbgphaaGreatDoor
namespace Go.Proofs.YtfangplfbbgphaaGreatDoor.Dv
set_option linter.unusedVariables false
set_option maxRecDepth 100000
theorem lt_q {M y q : Nat} (hy : 0 < y) (h : M < q * y) : M / y < q := (Nat.div_lt_iff_lt_mul hy).2 h
theorem le_q {M y q : Nat} (hy : 0 < y) (h : q * y ≤ M) : q ≤ M / y := (Nat.le_div_iff_mul_le hy).2 h
structure G (U u1 d1 d0 q r : Nat) : Prop where
 e : q * d1 + r = U
 hi : (U * 4294967296 + u1) / (d1 * 4294967296 + d0) ≤ q
theorem top {U u1 y : Nat} (hU : U < y) (hu : u1 < 4294967296) : (U * 4294967296 + u1) / y < 4294967296 := by
 refine lt_q (by omega) ?_
 rw [Nat.mul_comm 4294967296 y]
 omega
theorem mulY (q d1 d0 : Nat) : q * (d1 * 4294967296 + d0) = q * d1 * 4294967296 + q * d0 := by rw [Nat.mul_add, Nat.mul_assoc]
theorem start {U u1 d1 d0 : Nat} (h1 : 0 < d1) (hu : u1 < 4294967296) : G U u1 d1 d0 (U / d1) (U % d1) := by
 refine ⟨by rw [Nat.mul_comm]; exact Nat.div_add_mod U d1, ?_⟩
 refine Nat.le_of_lt_succ (lt_q (by omega) ?_)
 rw [mulY]
 have h := Nat.lt_div_mul_add (a := U) h1
 have : U + 1 ≤ (U / d1 + 1) * d1 := by rw [Nat.add_mul, Nat.one_mul]; omega
 generalize (U / d1 + 1) * d0 = z at *
 generalize (U / d1 + 1) * d1 = z' at *
 omega
theorem G.down {U u1 d1 d0 q r : Nat} (g : G U u1 d1 d0 q r) (h1 : 0 < d1) (hU : U < d1 * 4294967296 + d0) (hu : u1 < 4294967296) (h : 4294967296 ≤ q ∨ 4294967296 * r + u1 < q * d0) :
  1 ≤ q ∧ G U u1 d1 d0 (q - 1) (r + d1) := by
 have q1 : 1 ≤ q := by
  rcases h with h | h
  ·omega
  ·exact Nat.pos_of_ne_zero (fun z => by rw [z, Nat.zero_mul] at h; omega)
 refine ⟨q1, ?_, ?_⟩
 ·have e := g.e
  have : q * d1 = (q - 1) * d1 + d1 := by rw [Nat.sub_mul, Nat.one_mul, Nat.sub_add_cancel (Nat.le_mul_of_pos_left _ q1)]
  omega
 ·have : (U * 4294967296 + u1) / (d1 * 4294967296 + d0) < q := by
   rcases h with h | h
   ·exact Nat.lt_of_lt_of_le (top hU hu) h
   ·refine lt_q (by omega) ?_
    rw [mulY]
    have e := g.e
    generalize q * d1 = a at *
    omega
  omega
theorem G.bound {U u1 d1 d0 q r : Nat} (g : G U u1 d1 d0 q r) (h1 : 0 < d1) (hU : U < d1 * 4294967296 + d0) (hd : d0 < 4294967296) (hr : 4294967296 ≤ r) : q < 4294967296 := by
 have e := g.e
 by_cases c : q < 4294967296
 ·exact c
 ·have := Nat.mul_le_mul_right d1 (show 4294967296 ≤ q by omega)
  rw [Nat.mul_comm 4294967296 d1] at this
  omega
theorem G.done1 {U u1 d1 d0 q r : Nat} (g : G U u1 d1 d0 q r) (h1 : 0 < d1) (h : q * d0 ≤ 4294967296 * r + u1) : q = (U * 4294967296 + u1) / (d1 * 4294967296 + d0) := by
 refine Nat.le_antisymm (le_q (by omega) ?_) g.hi
 rw [mulY]
 have e := g.e
 generalize q * d1 = a at *
 omega
theorem G.done2 {U u1 d1 d0 q r : Nat} (g : G U u1 d1 d0 q r) (h1 : 0 < d1) (hU : U < d1 * 4294967296 + d0) (hd : d0 < 4294967296) (hr : 4294967296 ≤ r) : q = (U * 4294967296 + u1) / (d1 * 4294967296 + d0) := by
 refine g.done1 h1 ?_
 have := g.bound h1 hU hd hr
 have : q * d0 ≤ 4294967296 * 4294967296 := Nat.mul_le_mul (by omega) (by omega)
 omega
theorem left {M y : Nat} : M - M / y * y = M % y := by
 have := Nat.div_add_mod M y
 rw [Nat.mul_comm] at this
 omega
theorem both {M u0 y : Nat} (hy : 0 < y) : M / y * 4294967296 + (M % y * 4294967296 + u0) / y = (M * 4294967296 + u0) / y ∧ (M % y * 4294967296 + u0) % y = (M * 4294967296 + u0) % y := by
 have h := Nat.div_add_mod M y
 have k : M * 4294967296 + u0 = (M % y * 4294967296 + u0) + y * (M / y * 4294967296) := by
  have : M * 4294967296 = (y * (M / y) + M % y) * 4294967296 := by rw [h]
  rw [this]; grind
 rw [k, Nat.add_mul_div_left _ _ hy, Nat.add_mul_mod_self_left]
 exact ⟨Nat.add_comm _ _, rfl⟩
theorem moved {hi lo y s : Nat} (hs : 2 ^ s ∣ 18446744073709551616) (hlo : lo < 18446744073709551616) :
  (hi * 2 ^ s + lo / (18446744073709551616 / 2 ^ s)) * 18446744073709551616 + lo * 2 ^ s % 18446744073709551616 = (hi * 18446744073709551616 + lo) * 2 ^ s := by
 obtain ⟨t, ht⟩ := hs
 have hp : 0 < 2 ^ s := Nat.two_pow_pos s
 rw [ht, Nat.mul_div_cancel_left _ hp]
 generalize 2 ^ s = p at *
 have h := Nat.div_add_mod lo t
 rw [Nat.mul_comm lo p, Nat.mul_mod_mul_left]
 have : lo * p = (t * (lo / t) + lo % t) * p := by rw [h]
 rw [Nat.add_mul, Nat.add_mul (hi * (p * t)), this]
 generalize lo / t = a at *
 generalize lo % t = b at *
 grind
theorem back {N y s : Nat} : N * 2 ^ s / (y * 2 ^ s) = N / y ∧ N * 2 ^ s % (y * 2 ^ s) / 2 ^ s = N % y :=
 ⟨Nat.mul_div_mul_right _ _ (Nat.two_pow_pos s), by rw [Nat.mul_mod_mul_right, Nat.mul_div_cancel _ (Nat.two_pow_pos s)]⟩
end Go.Proofs.YtfangplfbbgphaaGreatDoor.Dv
