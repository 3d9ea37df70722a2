/- Contracts of layer 1: comparisons of the reference. -/
import Derived.Test.YtfangplfbbgphaaFrn
namespace Go.Proofs.Ytfangplfbbgphaa
open Go.ChangeShapes Go.WideShapes Go.ChangeAt Go.RowKit
set_option linter.unusedVariables false
set_option maxRecDepth 100000
attribute [local go_sem ↓] Go.wp_at_zero Go.wp_at_succ

theorem lt_digit {a b u v : Nat} (ha : a < 4294967296) (hb : b < 4294967296) : (a + 4294967296 * u < b + 4294967296 * v) ↔ (u < v ∨ (u = v ∧ a < b)) := by omega
theorem dg_split {x : Nat} (h : sm4 x) : ∃ u v : Nat, x = dg x 0 + 4294967296 * u ∧ u = dg x 1 + 4294967296 * v ∧ v = dg x 2 + 4294967296 * dg x 3 := by
  refine ⟨x / 4294967296, x / 4294967296 / 4294967296, ?_, ?_, ?_⟩
  · show x = x % 4294967296 + _
    omega
  · show x / 4294967296 = x / 4294967296 % 4294967296 + _
    omega
  · show x / 4294967296 / 4294967296 = x / 4294967296 / 4294967296 % 4294967296 + 4294967296 * (x / 4294967296 / 4294967296 / 4294967296 % 4294967296)
    unfold sm4 at h
    omega
theorem below_plain {x y : Nat} (hx : sm4 x) (hy : sm4 y) :
    (dg x 3 ≠ dg y 3 → decide (x < y) = decide (dg x 3 < dg y 3)) ∧ (dg x 3 = dg y 3 → dg x 2 ≠ dg y 2 → decide (x < y) = decide (dg x 2 < dg y 2)) ∧ (dg x 3 = dg y 3 → dg x 2 = dg y 2 → dg x 1 ≠ dg y 1 → decide (x < y) = decide (dg x 1 < dg y 1)) ∧
    (dg x 3 = dg y 3 → dg x 2 = dg y 2 → dg x 1 = dg y 1 → dg x 0 ≠ dg y 0 → decide (x < y) = decide (dg x 0 < dg y 0)) ∧ (dg x 3 = dg y 3 → dg x 2 = dg y 2 → dg x 1 = dg y 1 → dg x 0 = dg y 0 → decide (x < y) = false) := by
  obtain ⟨u, v, e1, e2, e3⟩ := dg_split hx
  obtain ⟨s, t, f1, f2, f3⟩ := dg_split hy
  have l0 := dg_lt x 0
  have l1 := dg_lt x 1
  have l2 := dg_lt x 2
  have m0 := dg_lt y 0
  have m1 := dg_lt y 1
  have m2 := dg_lt y 2
  have k : x < y ↔ (dg x 3 < dg y 3 ∨ (dg x 3 = dg y 3 ∧ (dg x 2 < dg y 2 ∨ (dg x 2 = dg y 2 ∧ (dg x 1 < dg y 1 ∨ (dg x 1 = dg y 1 ∧ dg x 0 < dg y 0)))))) := by
    generalize dg x 0 = x0 at *
    generalize dg x 1 = x1 at *
    generalize dg x 2 = x2 at *
    generalize dg x 3 = x3 at *
    generalize dg y 0 = y0 at *
    generalize dg y 1 = y1 at *
    generalize dg y 2 = y2 at *
    generalize dg y 3 = y3 at *
    subst e3 f3
    have a1 := lt_digit (u := x3) (v := y3) l2 m2
    have a2 := lt_digit (u := u) (v := s) l0 m0
    have a3 := lt_digit (u := x2 + 4294967296 * x3) (v := y2 + 4294967296 * y3) l1 m1
    rw [← e1, ← f1] at a2
    rw [← e2, ← f2] at a3
    rw [a2, a3, a1]
    omega
  refine ⟨fun h => ?_, fun h h' => ?_, fun h h' h2 => ?_, fun h h' h2 h3 => ?_, fun h h' h2 h3 => ?_⟩
  all_goals first | (rw [decide_eq_false_iff_not, k]; omega) | (rw [decide_eq_decide, k]; omega)
set_option maxHeartbeats 4000000 in
theorem refBelow_calls (x y : Nat) (w : World) (hx : sm4 x) (hy : sm4 y) :
    Calls Try.prog 82 #[Dv x, Dv y] w fun e w' => e = .returned (.bool (decide (x < y))) ∧ Below w.heap.size w w' := by
  have PL := Lib.hid (below_plain hx hy)
  clear hx hy
  generalize decide (x < y) = res at *
  unfold Dv
  generalize dg x 0 = x0 at *
  generalize dg x 1 = x1 at *
  generalize dg x 2 = x2 at *
  generalize dg x 3 = x3 at *
  generalize dg y 0 = y0 at *
  generalize dg y 1 = y1 at *
  generalize dg y 2 = y2 at *
  generalize dg y 3 = y3 at *
  go_enter Try.func82, Try.ntmps82
  go_wp2_with fail
  have XB : Hid (((w.alloc (.cells #[.int .u64 (x0 : Int), .int .u64 (x1 : Int), .int .u64 (x2 : Int), .int .u64 (x3 : Int)] 117)).alloc (.cells #[.int .u64 (y0 : Int), .int .u64 (y1 : Int), .int .u64 (y2 : Int), .int .u64 (y3 : Int)] 117)).heap[w.heap.size]? = some (.cells #[.int .u64 (x0 : Int), .int .u64 (x1 : Int), .int .u64 (x2 : Int), .int .u64 (x3 : Int)] 117)) := Lib.hid (blk1 w _ _)
  have YB : Hid (((w.alloc (.cells #[.int .u64 (x0 : Int), .int .u64 (x1 : Int), .int .u64 (x2 : Int), .int .u64 (x3 : Int)] 117)).alloc (.cells #[.int .u64 (y0 : Int), .int .u64 (y1 : Int), .int .u64 (y2 : Int), .int .u64 (y3 : Int)] 117)).heap[w.heap.size + 1]? = some (.cells #[.int .u64 (y0 : Int), .int .u64 (y1 : Int), .int .u64 (y2 : Int), .int .u64 (y3 : Int)] 117)) := Lib.hid (blk2 w _ _)
  have NB : Hid (Below w.heap.size w ((w.alloc (.cells #[.int .u64 (x0 : Int), .int .u64 (x1 : Int), .int .u64 (x2 : Int), .int .u64 (x3 : Int)] 117)).alloc (.cells #[.int .u64 (y0 : Int), .int .u64 (y1 : Int), .int .u64 (y2 : Int), .int .u64 (y3 : Int)] 117))) := Lib.hid (Bal (Bal (Below.refl _ _) _) _)
  generalize (w.alloc (.cells #[.int .u64 (x0 : Int), .int .u64 (x1 : Int), .int .u64 (x2 : Int), .int .u64 (x3 : Int)] 117)).alloc (.cells #[.int .u64 (y0 : Int), .int .u64 (y1 : Int), .int .u64 (y2 : Int), .int .u64 (y3 : Int)] 117) = W at *
  go_loopw [5] (fun i wr => ∃ n, wr = W.drewN n ∧ ((i = .int .i64 3) ∨ (i = .int .i64 2 ∧ Hid (x3 = y3)) ∨ (i = .int .i64 1 ∧ Hid (x3 = y3) ∧ Hid (x2 = y2)) ∨ (i = .int .i64 0 ∧ Hid (x3 = y3) ∧ Hid (x2 = y2) ∧ Hid (x1 = y1)) ∨ (i = .int .i64 (-1) ∧ Hid (x3 = y3) ∧ Hid (x2 = y2) ∧ Hid (x1 = y1) ∧ Hid (x0 = y0)))) (fun i _ => (intOf i + 1).toNat)
  case atStart => exact ⟨0, rfl, .inl rfl⟩
  case round =>
    obtain ⟨n, rfl, (rfl | ⟨rfl, E0⟩ | ⟨rfl, E0, E1⟩ | ⟨rfl, E0, E1, E2⟩ | ⟨rfl, E0, E1, E2, E3⟩)⟩ := hrel
    · have ox := blk_cell XB.out 3 _ rfl
      have oy := blk_cell YB.out 3 _ rfl
      by_cases hd : x3 = y3
      · have hq : ((x3 : Int) != (y3 : Int)) = false := by rw [hd]; simp
        have E0 := Lib.hid hd
        clear hd
        go_wp2_with fail
        go_quiet (fail)
        go_wp2_with fail
        exact ⟨⟨n + nq, rfl, .inr (.inl ⟨rfl, E0⟩)⟩, by simp [intOf]⟩
      · have hq : ((x3 : Int) != (y3 : Int)) = true := by rw [bne_iff_ne]; omega
        have FE := Lib.hid (PL.out.1  hd)
        clear hd
        go_wp2_with fail
        go_quiet (fail)
        go_wp2_with fail
        go_quiet (fail)
        go_wp2_with fail
        go_ret
        exact ⟨ret_bool (by rw [FE.out]), by first | exact below_drewN NB.out _ | exact below_drewN (below_drewN NB.out _) _ | exact below_drewN (below_drewN (below_drewN NB.out _) _) _⟩
    · have ox := blk_cell XB.out 2 _ rfl
      have oy := blk_cell YB.out 2 _ rfl
      by_cases hd : x2 = y2
      · have hq : ((x2 : Int) != (y2 : Int)) = false := by rw [hd]; simp
        have E1 := Lib.hid hd
        clear hd
        go_wp2_with fail
        go_quiet (fail)
        go_wp2_with fail
        exact ⟨⟨n + nq, rfl, .inr (.inr (.inl ⟨rfl, E0, E1⟩))⟩, by simp [intOf]⟩
      · have hq : ((x2 : Int) != (y2 : Int)) = true := by rw [bne_iff_ne]; omega
        have FE := Lib.hid (PL.out.2.1 E0.out hd)
        clear hd
        go_wp2_with fail
        go_quiet (fail)
        go_wp2_with fail
        go_quiet (fail)
        go_wp2_with fail
        go_ret
        exact ⟨ret_bool (by rw [FE.out]), by first | exact below_drewN NB.out _ | exact below_drewN (below_drewN NB.out _) _ | exact below_drewN (below_drewN (below_drewN NB.out _) _) _⟩
    · have ox := blk_cell XB.out 1 _ rfl
      have oy := blk_cell YB.out 1 _ rfl
      by_cases hd : x1 = y1
      · have hq : ((x1 : Int) != (y1 : Int)) = false := by rw [hd]; simp
        have E2 := Lib.hid hd
        clear hd
        go_wp2_with fail
        go_quiet (fail)
        go_wp2_with fail
        exact ⟨⟨n + nq, rfl, .inr (.inr (.inr (.inl ⟨rfl, E0, E1, E2⟩)))⟩, by simp [intOf]⟩
      · have hq : ((x1 : Int) != (y1 : Int)) = true := by rw [bne_iff_ne]; omega
        have FE := Lib.hid (PL.out.2.2.1 E0.out E1.out hd)
        clear hd
        go_wp2_with fail
        go_quiet (fail)
        go_wp2_with fail
        go_quiet (fail)
        go_wp2_with fail
        go_ret
        exact ⟨ret_bool (by rw [FE.out]), by first | exact below_drewN NB.out _ | exact below_drewN (below_drewN NB.out _) _ | exact below_drewN (below_drewN (below_drewN NB.out _) _) _⟩
    · have ox := blk_cell XB.out 0 _ rfl
      have oy := blk_cell YB.out 0 _ rfl
      by_cases hd : x0 = y0
      · have hq : ((x0 : Int) != (y0 : Int)) = false := by rw [hd]; simp
        have E3 := Lib.hid hd
        clear hd
        go_wp2_with fail
        go_quiet (fail)
        go_wp2_with fail
        exact ⟨⟨n + nq, rfl, .inr (.inr (.inr (.inr (⟨rfl, E0, E1, E2, E3⟩))))⟩, by simp [intOf]⟩
      · have hq : ((x0 : Int) != (y0 : Int)) = true := by rw [bne_iff_ne]; omega
        have FE := Lib.hid (PL.out.2.2.2.1 E0.out E1.out E2.out hd)
        clear hd
        go_wp2_with fail
        go_quiet (fail)
        go_wp2_with fail
        go_quiet (fail)
        go_wp2_with fail
        go_ret
        exact ⟨ret_bool (by rw [FE.out]), by first | exact below_drewN NB.out _ | exact below_drewN (below_drewN NB.out _) _ | exact below_drewN (below_drewN (below_drewN NB.out _) _) _⟩
    · have FE := Lib.hid (PL.out.2.2.2.2 E0.out E1.out E2.out E3.out)
      go_wp2_with fail
      go_ret
      exact ⟨ret_bool FE.out.symm, below_drewN NB.out _⟩
theorem sm4_prod64 {a b : Nat} (ha : a ≤ 9223372036854775808) (hb : b ≤ 9223372036854775808) : sm4 (a * b) := by
  have h := Nat.mul_le_mul ha hb
  unfold sm4
  generalize a * b = p at *
  omega
abbrev set4 (w : World) (g : Nat) (a b c d : Value) : World := (((w.setCell ⟨g, 0, none⟩ a).setCell ⟨g, 1, none⟩ b).setCell ⟨g, 2, none⟩ c).setCell ⟨g, 3, none⟩ d
theorem blk_put4 {w : World} {g : Nat} {x y z u : Value} {t : TypeId} (h : w.heap[g]? = some (.cells #[x, y, z, u] t)) (a b c d : Value) : (set4 w g a b c d).heap[g]? = some (.cells #[a, b, c, d] t) := blk_set (blk_set (blk_set (blk_set h 0 a) 1 b) 2 c) 3 d
theorem blk_put4_other {w : World} {g k : Nat} {o : Obj} (h : w.heap[k]? = some o) (hne : g ≠ k) (a b c d : Value) : (set4 w g a b c d).heap[k]? = some o := blk_set_other (blk_set_other (blk_set_other (blk_set_other h hne 0 a) hne 1 b) hne 2 c) hne 3 d
theorem sz4 (w : World) (g : Nat) (a b c d : Value) : (set4 w g a b c d).heap.size = w.heap.size := by simp [World.setCell]
theorem blk_dr {w : World} {b : Nat} {o : Obj} (h : w.heap[b]? = some o) : w.drew.heap[b]? = some o := h
structure P2 (w W : World) (an ad bn bd : Int) : Prop where
  a : W.heap[w.heap.size]? = some (.cells #[.int .i64 an, .int .i64 ad] 34)
  b : W.heap[w.heap.size + 1]? = some (.cells #[.int .i64 bn, .int .i64 bd] 34)
  n : Below w.heap.size w W
theorem P2.next {w W W' : World} {an ad bn bd : Int} (h : P2 w W an ad bn bd) (hb : Below W.heap.size W W') : P2 w W' an ad bn bd := ⟨blk_next hb h.a, blk_next hb h.b, Bgo h.n hb⟩
theorem P2.init (w : World) (an ad bn bd : Int) : P2 w ((w.alloc (.cells #[.int .i64 an, .int .i64 ad] 34)).alloc (.cells #[.int .i64 bn, .int .i64 bd] 34)) an ad bn bd := ⟨blk1 w _ _, blk2 w _ _, Bal (Bal (Below.refl _ _) _) _⟩
set_option maxRecDepth 100000 in
set_option maxHeartbeats 8000000 in
theorem refLess_calls (an ad bn bd : Int) (w : World) (h1 : -9223372036854775808 ≤ an) (h2 : an ≤ 9223372036854775807) (h3 : 1 ≤ ad) (h4 : ad ≤ 9223372036854775807) (h5 : -9223372036854775808 ≤ bn) (h6 : bn ≤ 9223372036854775807) (h7 : 1 ≤ bd) (h8 : bd ≤ 9223372036854775807) :
    Calls Try.prog 58 #[Fv an ad, Fv bn bd] w fun e w' => e = .returned (.bool (decide (an * bd < bn * ad))) ∧ Below w.heap.size w w' := by
  have A1 := absmul (n := an) (d := bd) (by omega)
  have A2 := absmul (n := bn) (d := ad) (by omega)
  have nn1 : an < 0 → an * bd < 0 := fun h => Int.mul_neg_of_neg_of_pos h (by omega)
  have nn2 : 0 ≤ an → 0 ≤ an * bd := fun h => Int.mul_nonneg h (by omega)
  have nn3 : bn < 0 → bn * ad < 0 := fun h => Int.mul_neg_of_neg_of_pos h (by omega)
  have nn4 : 0 ≤ bn → 0 ≤ bn * ad := fun h => Int.mul_nonneg h (by omega)
  have S1 := Lib.hid (fun W => abs_calls an W h1 h2)
  have S3 := Lib.hid (fun W => abs_calls bn W h5 h6)
  obtain ⟨y, rfl⟩ := Int.eq_ofNat_of_zero_le (show 0 ≤ ad by omega)
  obtain ⟨v, rfl⟩ := Int.eq_ofNat_of_zero_le (show 0 ≤ bd by omega)
  rw [Int.natAbs_natCast] at A1 A2
  have M1 := Lib.hid (fun W => refProduct_calls an.natAbs v W (by omega) (by omega))
  have M2 := Lib.hid (fun W => refProduct_calls bn.natAbs y W (by omega) (by omega))
  have q1 := sm4_prod64 (a := an.natAbs) (b := v) (by omega) (by omega)
  have q2 := sm4_prod64 (a := bn.natAbs) (b := y) (by omega) (by omega)
  generalize an.natAbs * v = P at *
  generalize bn.natAbs * y = Q at *
  generalize an.natAbs = x at *
  generalize bn.natAbs = u at *
  generalize an * (v : Int) = xi at *
  generalize bn * (y : Int) = yi at *
  have BC1 := Lib.hid (fun W => refBelow_calls P Q W q1 q2)
  have BC2 := Lib.hid (fun W => refBelow_calls Q P W q2 q1)
  clear q1 q2
  have wy : IntKind.u64.wrap (y : Int) = (y : Int) := wrapN _ (by omega)
  have wv : IntKind.u64.wrap (v : Int) = (v : Int) := wrapN _ (by omega)
  by_cases cs : decide (an < 0) = decide (bn < 0)
  · have SG : Hid (if an < 0 then decide (xi < yi) = decide (Q < P) else decide (xi < yi) = decide (P < Q)) := Lib.hid (by
      by_cases c1 : an < 0
      · have c2 : bn < 0 := by rw [decide_eq_true c1] at cs; exact of_decide_eq_true cs.symm
        rw [if_pos c1] at A1 ⊢
        rw [if_pos c2] at A2
        rw [decide_eq_decide]; omega
      · have c2 : ¬ bn < 0 := by rw [decide_eq_false c1] at cs; exact of_decide_eq_false cs.symm
        rw [if_neg c1] at A1 ⊢
        rw [if_neg c2] at A2
        rw [decide_eq_decide]; omega)
    generalize decide (xi < yi) = res at *
    clear A1 A2 nn1 nn2 nn3 nn4
    have cs' : (decide (an < 0) == decide (bn < 0)) = true := by rw [cs]; simp
    clear cs
    go_enter Try.func58, Try.ntmps58
    go_upto_region 3 with fail
    have K := Lib.hid (P2.init w an y bn v)
    generalize (w.alloc (.cells #[.int .i64 an, .int .i64 y] 34)).alloc (.cells #[.int .i64 bn, .int .i64 v] 34) = W at *
    go_cut [5, 6] (fun s5 s6 wx => ∃ (g5 g6 : Nat), s5 = .pointer (some ⟨g5, 0, none⟩) ∧ s6 = .pointer (some ⟨g6, 0, none⟩) ∧ Hid (P2 w wx an y bn v) ∧ Hid (wx.heap[g5]? = some (.cells #[.int .u64 (dg P 0 : Int), .int .u64 (dg P 1 : Int), .int .u64 (dg P 2 : Int), .int .u64 (dg P 3 : Int)] 117)) ∧ Hid (wx.heap[g6]? = some (.cells #[.int .u64 (dg Q 0 : Int), .int .u64 (dg Q 1 : Int), .int .u64 (dg Q 2 : Int), .int .u64 (dg Q 3 : Int)] 117)))
    case first =>
      have KEEP : Hid (∀ X : World, Below W.heap.size W X → X.cell? ⟨w.heap.size, 0, none⟩ = some (.int .i64 an) ∧ X.cell? ⟨w.heap.size, 1, none⟩ = some (.int .i64 y) ∧ X.cell? ⟨w.heap.size + 1, 0, none⟩ = some (.int .i64 bn) ∧ X.cell? ⟨w.heap.size + 1, 1, none⟩ = some (.int .i64 v)) := Lib.hid (fun X hX => ⟨blk_cell (K.out.next hX).a 0 _ rfl, blk_cell (K.out.next hX).a 1 _ rfl, blk_cell (K.out.next hX).b 0 _ rfl, blk_cell (K.out.next hX).b 1 _ rfl⟩)
      obtain ⟨k1, k2, k3, k4⟩ := KEEP.out W (Below.refl _ _)
      have HW1 : Hid (w.heap.size + 1 < W.heap.size) := Lib.hid (blk_lt K.out.b)
      go_region_held3 (fun X => X.cell? ⟨w.heap.size, 0, none⟩ = some (.int .i64 an) ∧ X.cell? ⟨w.heap.size, 1, none⟩ = some (.int .i64 y) ∧ X.cell? ⟨w.heap.size + 1, 0, none⟩ = some (.int .i64 bn) ∧ X.cell? ⟨w.heap.size + 1, 1, none⟩ = some (.int .i64 v))
        ((refine KEEP.out _ ?_; (repeat (first | (with_reducible exact Below.refl _ _) | (with_reducible exact BQ.out) | (with_reducible exact BP.out) | (with_reducible refine Below.drew ?_) | (with_reducible refine Bal ?_ _) | (with_reducible refine Bset1 ?_ (by first | exact Nat.le_refl _ | exact Nat.le_succ _ | exact BP.out.size | exact Nat.le_succ_of_le BP.out.size | exact BQ.out.size | exact Nat.le_succ_of_le BQ.out.size | (simp; omega)) _ _)))))
        (first
          | (go_at_call 67; (first | (with_reducible refine (S1.out _).mono ?_) | (with_reducible refine (S3.out _).mono ?_)); rintro e wa ⟨rfl, rfl⟩)
          | (go_at_call 69; (with_reducible refine (M1.out _).mono ?_); rintro e wp ⟨rfl, bp⟩; have BP : Hid (Below W.heap.size W wp) := Lib.hid (by refine Bgo ?_ bp; (repeat (first | (with_reducible exact Below.refl _ _) | (with_reducible refine Below.drew ?_) | (with_reducible refine Bal ?_ _)))); (first | (have RA : Hid (wp.heap[W.heap.size]? = some (.cells #[.int .u64 0, .int .u64 0, .int .u64 0, .int .u64 0] 117)) := Lib.hid (by first | (with_reducible exact blk_next bp (blk_new W _)) | (with_reducible exact blk_next (undrewB bp) (blk_new W _)) | (with_reducible exact blk_next bp (blk1 W _ _)) | (with_reducible exact blk_next (undrewB bp) (blk1 W _ _)))) | skip); (first | (have RB : Hid (wp.heap[W.heap.size + 1]? = some (.cells #[.int .u64 0, .int .u64 0, .int .u64 0, .int .u64 0] 117)) := Lib.hid (by first | (with_reducible exact blk_next bp (blk2 W _ _)) | (with_reducible exact blk_next (undrewB bp) (blk2 W _ _)))) | skip); clear bp)
          | (go_at_call 69; (with_reducible refine (M2.out _).mono ?_); rintro e wq ⟨rfl, bq⟩; have BQ : Hid (Below W.heap.size W wq) := Lib.hid (by refine Bgo ?_ bq; (repeat (first | (with_reducible exact BP.out) | (with_reducible refine Below.drew ?_) | (with_reducible refine Bal ?_ _)))); have SQ : Hid (wp.heap.size ≤ wq.heap.size) := Lib.hid (by first | (with_reducible exact bq.size) | (have t9 := bq.size; simp at t9; omega)); (first | (have RA2 : Hid (wq.heap[W.heap.size]? = some (.cells #[.int .u64 0, .int .u64 0, .int .u64 0, .int .u64 0] 117)) := Lib.hid (by first | (with_reducible exact blk_next bq RA.out) | (with_reducible exact blk_next (undrewB bq) RA.out) | (with_reducible exact blk_next bq (blk_alloc RA.out _)) | (with_reducible exact blk_next (undrewB bq) (blk_alloc RA.out _))); have ac0 := blk_cell RA2.out 0 _ rfl; have af0 := blk_frozen RA2.out 0; have ac1 := blk_cell RA2.out 1 _ rfl; have af1 := blk_frozen RA2.out 1; have ac2 := blk_cell RA2.out 2 _ rfl; have af2 := blk_frozen RA2.out 2; have ac3 := blk_cell RA2.out 3 _ rfl; have af3 := blk_frozen RA2.out 3; have al := blk_lt RA2.out) | skip); (first | (have RB2 : Hid (wq.heap[W.heap.size + 1]? = some (.cells #[.int .u64 0, .int .u64 0, .int .u64 0, .int .u64 0] 117)) := Lib.hid (by first | (with_reducible exact blk_next bq RB.out) | (with_reducible exact blk_next (undrewB bq) RB.out)); have bc0 := blk_cell RB2.out 0 _ rfl; have bf0 := blk_frozen RB2.out 0; have bc1 := blk_cell RB2.out 1 _ rfl; have bf1 := blk_frozen RB2.out 1; have bc2 := blk_cell RB2.out 2 _ rfl; have bf2 := blk_frozen RB2.out 2; have bc3 := blk_cell RB2.out 3 _ rfl; have bf3 := blk_frozen RB2.out 3; have bl := blk_lt RB2.out) | skip); (first | (have RC2 : Hid (wq.heap[wp.heap.size]? = some (.cells #[.int .u64 0, .int .u64 0, .int .u64 0, .int .u64 0] 117)) := Lib.hid (by first | (with_reducible exact blk_next bq (blk_new wp _)) | (with_reducible exact blk_next (undrewB bq) (blk_new wp _)) | (with_reducible exact blk_next bq (blk1 wp _ _)) | (with_reducible exact blk_next (undrewB bq) (blk1 wp _ _))); have cc0 := blk_cell RC2.out 0 _ rfl; have cf0 := blk_frozen RC2.out 0; have cc1 := blk_cell RC2.out 1 _ rfl; have cf1 := blk_frozen RC2.out 1; have cc2 := blk_cell RC2.out 2 _ rfl; have cf2 := blk_frozen RC2.out 2; have cc3 := blk_cell RC2.out 3 _ rfl; have cf3 := blk_frozen RC2.out 3; have cl := blk_lt RC2.out) | skip); (first | (have RD2 : Hid (wq.heap[wp.heap.size + 1]? = some (.cells #[.int .u64 0, .int .u64 0, .int .u64 0, .int .u64 0] 117)) := Lib.hid (by first | (with_reducible exact blk_next bq (blk2 wp _ _)) | (with_reducible exact blk_next (undrewB bq) (blk2 wp _ _))); have dc0 := blk_cell RD2.out 0 _ rfl; have df0 := blk_frozen RD2.out 0; have dc1 := blk_cell RD2.out 1 _ rfl; have df1 := blk_frozen RD2.out 1; have dc2 := blk_cell RD2.out 2 _ rfl; have df2 := blk_frozen RD2.out 2; have dc3 := blk_cell RD2.out 3 _ rfl; have df3 := blk_frozen RD2.out 3; have dl := blk_lt RD2.out) | skip); (first | (have nAC : ¬ W.heap.size = wp.heap.size := (by (have t8 := blk_lt RA.out; omega)); have nAC' : ¬ wp.heap.size = W.heap.size := (by (have t8 := blk_lt RA.out; omega))) | skip); (first | (have nBC : ¬ W.heap.size + 1 = wp.heap.size := (by (have t8 := blk_lt RB.out; omega)); have nBC' : ¬ wp.heap.size = W.heap.size + 1 := (by (have t8 := blk_lt RB.out; omega))) | skip); (first | (have nAD : ¬ W.heap.size = wp.heap.size + 1 := (by (have t8 := blk_lt RA.out; omega)); have nAD' : ¬ wp.heap.size + 1 = W.heap.size := (by (have t8 := blk_lt RA.out; omega))) | skip); (first | (have nAQ : ¬ W.heap.size = wq.heap.size := (by (have t8 := blk_lt RA2.out; omega)); have nAQ' : ¬ wq.heap.size = W.heap.size := (by (have t8 := blk_lt RA2.out; omega))) | skip); (first | (have nBQ : ¬ W.heap.size + 1 = wq.heap.size := (by (have t8 := blk_lt RB2.out; omega)); have nBQ' : ¬ wq.heap.size = W.heap.size + 1 := (by (have t8 := blk_lt RB2.out; omega))) | skip); (first | (have nCQ : ¬ wp.heap.size = wq.heap.size := (by (have t8 := blk_lt RC2.out; omega)); have nCQ' : ¬ wq.heap.size = wp.heap.size := (by (have t8 := blk_lt RC2.out; omega))) | skip); (first | (have nDQ : ¬ wp.heap.size + 1 = wq.heap.size := (by (have t8 := blk_lt RD2.out; omega)); have nDQ' : ¬ wq.heap.size = wp.heap.size + 1 := (by (have t8 := blk_lt RD2.out; omega))) | skip); clear bq))
      all_goals go_wp2_with fail
      all_goals go_meet
      all_goals (refine ⟨_, _, rfl, rfl, Lib.hid (K.out.next ?_), Lib.hid ?_, Lib.hid ?_⟩; (· (repeat (first | (with_reducible exact Below.refl _ _) | (with_reducible exact BQ.out) | (with_reducible exact BP.out) | (with_reducible refine Below.drew ?_) | (with_reducible refine Bal ?_ _) | (with_reducible refine Bset1 ?_ (by first | exact Nat.le_refl _ | exact Nat.le_succ _ | exact BP.out.size | exact Nat.le_succ_of_le BP.out.size | exact BQ.out.size | exact Nat.le_succ_of_le BQ.out.size | (simp; omega)) _ _)))); (· (first | (with_reducible exact blk_put4_other (blk_put4 RA2.out _ _ _ _) (by omega) _ _ _ _) | (with_reducible exact blk_dr (blk_put4_other (blk_put4 RA2.out _ _ _ _) (by omega) _ _ _ _)) | (with_reducible exact blk_put4_other (blk_put4 (blk_alloc RA2.out _) _ _ _ _) (by omega) _ _ _ _) | (with_reducible exact blk_dr (blk_put4_other (blk_put4 (blk_alloc RA2.out _) _ _ _ _) (by omega) _ _ _ _)) | (with_reducible exact blk_put4 (blk_alloc RA2.out _) _ _ _ _) | (with_reducible exact blk_dr (blk_put4 (blk_alloc RA2.out _) _ _ _ _)) | (with_reducible exact blk_alloc (blk_put4 RA2.out _ _ _ _) _) | (with_reducible exact blk_dr (blk_alloc (blk_put4 RA2.out _ _ _ _) _)) | (with_reducible exact blk_put4_other (blk_put4 RB2.out _ _ _ _) (by omega) _ _ _ _) | (with_reducible exact blk_dr (blk_put4_other (blk_put4 RB2.out _ _ _ _) (by omega) _ _ _ _)) | (with_reducible exact blk_put4_other (blk_put4 (blk_alloc RB2.out _) _ _ _ _) (by omega) _ _ _ _) | (with_reducible exact blk_dr (blk_put4_other (blk_put4 (blk_alloc RB2.out _) _ _ _ _) (by omega) _ _ _ _)) | (with_reducible exact blk_put4 (blk_alloc RB2.out _) _ _ _ _) | (with_reducible exact blk_dr (blk_put4 (blk_alloc RB2.out _) _ _ _ _)) | (with_reducible exact blk_alloc (blk_put4 RB2.out _ _ _ _) _) | (with_reducible exact blk_dr (blk_alloc (blk_put4 RB2.out _ _ _ _) _)) | (with_reducible exact blk_put4_other (blk_put4 RC2.out _ _ _ _) (by omega) _ _ _ _) | (with_reducible exact blk_dr (blk_put4_other (blk_put4 RC2.out _ _ _ _) (by omega) _ _ _ _)) | (with_reducible exact blk_put4_other (blk_put4 (blk_alloc RC2.out _) _ _ _ _) (by omega) _ _ _ _) | (with_reducible exact blk_dr (blk_put4_other (blk_put4 (blk_alloc RC2.out _) _ _ _ _) (by omega) _ _ _ _)) | (with_reducible exact blk_put4 (blk_alloc RC2.out _) _ _ _ _) | (with_reducible exact blk_dr (blk_put4 (blk_alloc RC2.out _) _ _ _ _)) | (with_reducible exact blk_alloc (blk_put4 RC2.out _ _ _ _) _) | (with_reducible exact blk_dr (blk_alloc (blk_put4 RC2.out _ _ _ _) _)) | (with_reducible exact blk_put4_other (blk_put4 RD2.out _ _ _ _) (by omega) _ _ _ _) | (with_reducible exact blk_dr (blk_put4_other (blk_put4 RD2.out _ _ _ _) (by omega) _ _ _ _)) | (with_reducible exact blk_put4_other (blk_put4 (blk_alloc RD2.out _) _ _ _ _) (by omega) _ _ _ _) | (with_reducible exact blk_dr (blk_put4_other (blk_put4 (blk_alloc RD2.out _) _ _ _ _) (by omega) _ _ _ _)) | (with_reducible exact blk_put4 (blk_alloc RD2.out _) _ _ _ _) | (with_reducible exact blk_dr (blk_put4 (blk_alloc RD2.out _) _ _ _ _)) | (with_reducible exact blk_alloc (blk_put4 RD2.out _ _ _ _) _) | (with_reducible exact blk_dr (blk_alloc (blk_put4 RD2.out _ _ _ _) _)) | (with_reducible exact blk_put4_other (blk_new wq _) (by omega) _ _ _ _) | (with_reducible exact blk_dr (blk_put4_other (blk_new wq _) (by omega) _ _ _ _)) | (with_reducible exact blk1 wq _ _) | (with_reducible exact blk_dr (blk1 wq _ _)) | (with_reducible exact blk2 wq _ _) | (with_reducible exact blk_dr (blk2 wq _ _)) | (with_reducible exact blk_at _ (sz4 _ _ _ _ _ _).symm) | (with_reducible exact blk_dr (blk_at _ (sz4 _ _ _ _ _ _).symm)))); (· (first | (with_reducible exact blk_put4 (blk_put4_other RA2.out (by omega) _ _ _ _) _ _ _ _) | (with_reducible exact blk_dr (blk_put4 (blk_put4_other RA2.out (by omega) _ _ _ _) _ _ _ _)) | (with_reducible exact blk_put4 (blk_alloc RA2.out _) _ _ _ _) | (with_reducible exact blk_dr (blk_put4 (blk_alloc RA2.out _) _ _ _ _)) | (with_reducible exact blk_put4 (blk_put4_other RB2.out (by omega) _ _ _ _) _ _ _ _) | (with_reducible exact blk_dr (blk_put4 (blk_put4_other RB2.out (by omega) _ _ _ _) _ _ _ _)) | (with_reducible exact blk_put4 (blk_alloc RB2.out _) _ _ _ _) | (with_reducible exact blk_dr (blk_put4 (blk_alloc RB2.out _) _ _ _ _)) | (with_reducible exact blk_put4 (blk_put4_other RC2.out (by omega) _ _ _ _) _ _ _ _) | (with_reducible exact blk_dr (blk_put4 (blk_put4_other RC2.out (by omega) _ _ _ _) _ _ _ _)) | (with_reducible exact blk_put4 (blk_alloc RC2.out _) _ _ _ _) | (with_reducible exact blk_dr (blk_put4 (blk_alloc RC2.out _) _ _ _ _)) | (with_reducible exact blk_put4 (blk_put4_other RD2.out (by omega) _ _ _ _) _ _ _ _) | (with_reducible exact blk_dr (blk_put4 (blk_put4_other RD2.out (by omega) _ _ _ _) _ _ _ _)) | (with_reducible exact blk_put4 (blk_alloc RD2.out _) _ _ _ _) | (with_reducible exact blk_dr (blk_put4 (blk_alloc RD2.out _) _ _ _ _)) | (with_reducible exact blk_put4 (blk_put4_other (blk_new wq _) (by omega) _ _ _ _) _ _ _ _) | (with_reducible exact blk_dr (blk_put4 (blk_put4_other (blk_new wq _) (by omega) _ _ _ _) _ _ _ _)) | (with_reducible exact blk_put4_other (blk_new wq _) (by omega) _ _ _ _) | (with_reducible exact blk_dr (blk_put4_other (blk_new wq _) (by omega) _ _ _ _)) | (with_reducible exact blk_new _ _) | (with_reducible exact blk_dr (blk_new _ _)) | (with_reducible exact blk1 wq _ _) | (with_reducible exact blk_dr (blk1 wq _ _)) | (with_reducible exact blk2 wq _ _) | (with_reducible exact blk_dr (blk2 wq _ _)) | (with_reducible exact blk_at _ (sz4 _ _ _ _ _ _).symm) | (with_reducible exact blk_dr (blk_at _ (sz4 _ _ _ _ _ _).symm)) | (with_reducible exact blk_alloc (blk_put4 RA2.out _ _ _ _) _) | (with_reducible exact blk_dr (blk_alloc (blk_put4 RA2.out _ _ _ _) _)) | (with_reducible exact blk_alloc (blk_put4 RB2.out _ _ _ _) _) | (with_reducible exact blk_dr (blk_alloc (blk_put4 RB2.out _ _ _ _) _)) | (with_reducible exact blk_alloc (blk_put4 RC2.out _ _ _ _) _) | (with_reducible exact blk_dr (blk_alloc (blk_put4 RC2.out _ _ _ _) _)) | (with_reducible exact blk_alloc (blk_put4 RD2.out _ _ _ _) _) | (with_reducible exact blk_dr (blk_alloc (blk_put4 RD2.out _ _ _ _) _)))))
    case rest =>
      obtain ⟨g5, g6, rfl, rfl, K2, B5, B6⟩ := hcut
      have a0 := blk_cell K2.out.a 0 _ rfl
      have u0 := blk_cell B5.out 0 _ rfl
      have u1 := blk_cell B5.out 1 _ rfl
      have u2 := blk_cell B5.out 2 _ rfl
      have u3 := blk_cell B5.out 3 _ rfl
      have v0 := blk_cell B6.out 0 _ rfl
      have v1 := blk_cell B6.out 1 _ rfl
      have v2 := blk_cell B6.out 2 _ rfl
      have v3 := blk_cell B6.out 3 _ rfl
      have l5 := blk_lt B5.out
      have l6 := blk_lt B6.out
      by_cases c1 : an < 0
      · have FE : Hid (res = decide (Q < P)) := Lib.hid (by have := SG.out; rw [if_pos c1] at this; exact this)
        go_wp2_with fail
        refine (BC2.out _).mono ?_
        rintro e w9 ⟨rfl, hb⟩
        go_wp2_with fail
        go_ret
        exact ⟨ret_bool FE.out.symm, Bgo K2.out.n hb⟩
      · have FE : Hid (res = decide (P < Q)) := Lib.hid (by have := SG.out; rw [if_neg c1] at this; exact this)
        go_wp2_with fail
        refine (BC1.out _).mono ?_
        rintro e w9 ⟨rfl, hb⟩
        go_wp2_with fail
        go_ret
        exact ⟨ret_bool FE.out.symm, Bgo K2.out.n hb⟩
  · have RS : decide (xi < yi) = decide (an < 0) := by
      by_cases c1 : an < 0
      · have c2 : ¬ bn < 0 := fun c2 => cs (by rw [decide_eq_true c1, decide_eq_true c2])
        have := nn1 c1
        have := nn4 (by omega)
        rw [decide_eq_true c1]; exact decide_eq_true (by omega)
      · have c2 : bn < 0 := by
          by_cases c2 : bn < 0
          · exact c2
          · exact absurd (by rw [decide_eq_false c1, decide_eq_false c2]) cs
        have := nn2 (by omega)
        have := nn3 c2
        rw [decide_eq_false c1]; exact decide_eq_false (by omega)
    rw [RS]
    have cs' : (decide (an < 0) == decide (bn < 0)) = false := by rw [beq_eq_false_iff_ne]; exact cs
    clear A1 A2 nn1 nn2 nn3 nn4 cs RS BC1 BC2
    go_enter Try.func58, Try.ntmps58
    go_wp2_with fail
    go_ret
    exact ⟨rfl, Bal (Bal (Below.refl _ _) _) _⟩
end Go.Proofs.Ytfangplfbbgphaa
