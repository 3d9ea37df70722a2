/- Contracts of layer 1: Near of the program. -/
import Derived.Test.YtpeoecgehdicmaaDoorFrk
import Derived.Test.YtpeoecgehdicmaaDoorFry
namespace Go.Proofs.YtpeoecgehdicmaaDoor
open Go.ChangeShapes Go.WideShapes Go.ChangeAt Go.RowKit
set_option linter.unusedVariables false
attribute [local go_sem ↓] Go.wp_at_zero Go.wp_at_succ

def NearR (N D n : Int) (r : Int × Int × Int) : Prop :=
  (errF N D ≠ 0 ∧ r = (0, 0, errF N D)) ∨ (errF N D = 0 ∧ (n < 1 ∨ 1000000000000000000 < n) ∧ r = (0, 0, 2)) ∨ (errF N D = 0 ∧ 1 ≤ n ∧ n ≤ 1000000000000000000 ∧ D ≤ n ∧ r = (N, D, 0)) ∨
  (errF N D = 0 ∧ 1 ≤ n ∧ n ≤ 1000000000000000000 ∧ n < D ∧ ∃ x y, Farey.Near N D n x y ∧ r = (x, y, 0))
theorem NearR.unique {N D n : Int} {r r' : Int × Int × Int} (h : NearR N D n r) (k : NearR N D n r') : r = r' := by
  rcases h with ⟨h1, rfl⟩ | ⟨h1, h2, rfl⟩ | ⟨h1, h2, h3, h4, rfl⟩ | ⟨h1, h2, h3, h4, x, y, h5, rfl⟩ <;> rcases k with ⟨k1, rfl⟩ | ⟨k1, k2, rfl⟩ | ⟨k1, k2, k3, k4, rfl⟩ | ⟨k1, k2, k3, k4, u, v, k5, rfl⟩
  all_goals first | rfl | omega | skip
  obtain ⟨rfl, rfl⟩ := h5.unique (by have := (errF_ok h1).d1; omega) k5
  rfl
def NPost (w : World) (N D n : Int) (e : Ending) (w' : World) : Prop := ∃ r, e = .returned (Rv r) ∧ NearR N D n r ∧ Below w.heap.size w w'
structure P1 (w W : World) (N D : Int) : Prop where
  a : W.heap[w.heap.size]? = some (.cells #[.int .i64 N, .int .i64 D] 23)
  z : W.heap[w.heap.size + 1]? = some (.cells #[.int .i64 0, .int .i64 0] 23)
  n : Below w.heap.size w W
theorem P1.next {w W W' : World} {N D : Int} (h : P1 w W N D) (hb : Below W.heap.size W W') : P1 w W' N D := ⟨blk_next hb h.a, blk_next hb h.z, Bgo h.n hb⟩
theorem P1.drewN {w W : World} {N D : Int} (h : P1 w W N D) (n : Nat) : P1 w (W.drewN n) N D := h.next (below_drewN (Below.refl _ _) n)
theorem P1.init (w : World) (N D : Int) : P1 w ((w.alloc (.cells #[.int .i64 N, .int .i64 D] 23)).alloc (.cells #[.int .i64 0, .int .i64 0] 23)) N D := ⟨blk1 w _ _, blk2 w _ _, Bal (Bal (Below.refl _ _) _) _⟩
theorem natmul {a b : Int} (ha : 0 ≤ a) (hb : 0 ≤ b) : ((a.natAbs * b.natAbs : Nat) : Int) = a * b := by rw [Int.natCast_mul, show ((a.natAbs : Nat) : Int) = a by omega, show ((b.natAbs : Nat) : Int) = b by omega]
set_option maxRecDepth 100000 in
set_option maxHeartbeats 4000000 in
theorem near_easy (N D n : Int) (w : World) (h : errF N D ≠ 0 ∨ n < 1 ∨ 1000000000000000000 < n ∨ D ≤ n) :
    Calls Tryd.prog 23 #[Fv N D, .int .i64 n] w (NPost w N D n) := by
  have C1 := Lib.hid (fun W => check_calls N D W)
  by_cases ck : errF N D = 0
  · rw [ck] at C1
    have hd := errF_ok ck
    have d1 := hd.d1
    have d2 := hd.d2
    clear hd
    by_cases c1 : n < 1
    · have AR : Hid (NearR N D n (0, 0, 2)) := Lib.hid (.inr (.inl ⟨ck, .inl c1, rfl⟩))
      clear ck h
      go_enter Tryd.func23, Tryd.ntmps23
      go_wp2_with fail
      refine (C1.out _).mono ?_
      rintro e w1 ⟨rfl, hb⟩
      have K := Lib.hid ((P1.init w N D).next hb)
      clear hb
      have z0 := blk_cell K.out.z 0 _ rfl
      have z1 := blk_cell K.out.z 1 _ rfl
      have f0 := blk_frozen K.out.z 0
      have f1 := blk_frozen K.out.z 1
      have a0 := blk_cell K.out.a 0 _ rfl
      have a1 := blk_cell K.out.a 1 _ rfl
      have zl := blk_lt K.out.z
      go_wp2_with fail
      have e1 := blk_cell (blk_set (blk_set K.out.z 0 (.int .i64 0)) 1 (.int .i64 0)) 0 _ rfl
      have e2 := blk_cell (blk_set (blk_set K.out.z 0 (.int .i64 0)) 1 (.int .i64 0)) 1 _ rfl
      refine bodyPost_ret (v := .tuple #[Fv 0 0, .int .i64 2]) (by simp [results, Tryd.results23, go_sem, e1, e2]) rfl ⟨(0, 0, 2), rfl, AR.out, Bset1 (Bset1 K.out.n (by omega) _ _) (by omega) _ _⟩
    by_cases c2 : 1000000000000000000 < n
    · have AR : Hid (NearR N D n (0, 0, 2)) := Lib.hid (.inr (.inl ⟨ck, .inr c2, rfl⟩))
      clear ck h
      go_enter Tryd.func23, Tryd.ntmps23
      go_wp2_with fail
      refine (C1.out _).mono ?_
      rintro e w1 ⟨rfl, hb⟩
      have K := Lib.hid ((P1.init w N D).next hb)
      clear hb
      have z0 := blk_cell K.out.z 0 _ rfl
      have z1 := blk_cell K.out.z 1 _ rfl
      have f0 := blk_frozen K.out.z 0
      have f1 := blk_frozen K.out.z 1
      have a0 := blk_cell K.out.a 0 _ rfl
      have a1 := blk_cell K.out.a 1 _ rfl
      have zl := blk_lt K.out.z
      go_wp2_with fail
      have e1 := blk_cell (blk_set (blk_set K.out.z 0 (.int .i64 0)) 1 (.int .i64 0)) 0 _ rfl
      have e2 := blk_cell (blk_set (blk_set K.out.z 0 (.int .i64 0)) 1 (.int .i64 0)) 1 _ rfl
      refine bodyPost_ret (v := .tuple #[Fv 0 0, .int .i64 2]) (by simp [results, Tryd.results23, go_sem, e1, e2]) rfl ⟨(0, 0, 2), rfl, AR.out, Bset1 (Bset1 K.out.n (by omega) _ _) (by omega) _ _⟩
    have c3 : D ≤ n := by omega
    have AR : Hid (NearR N D n (N, D, 0)) := Lib.hid (.inr (.inr (.inl ⟨ck, by omega, by omega, c3, rfl⟩)))
    clear ck h
    go_enter Tryd.func23, Tryd.ntmps23
    go_wp2_with fail
    refine (C1.out _).mono ?_
    rintro e w1 ⟨rfl, hb⟩
    have K := Lib.hid ((P1.init w N D).next hb)
    clear hb
    have z0 := blk_cell K.out.z 0 _ rfl
    have z1 := blk_cell K.out.z 1 _ rfl
    have f0 := blk_frozen K.out.z 0
    have f1 := blk_frozen K.out.z 1
    have a0 := blk_cell K.out.a 0 _ rfl
    have a1 := blk_cell K.out.a 1 _ rfl
    have zl := blk_lt K.out.z
    go_wp2_with fail
    have e1 := blk_cell (blk_set (blk_set K.out.z 0 (.int .i64 N)) 1 (.int .i64 D)) 0 _ rfl
    have e2 := blk_cell (blk_set (blk_set K.out.z 0 (.int .i64 N)) 1 (.int .i64 D)) 1 _ rfl
    refine bodyPost_ret (v := .tuple #[Fv N D, .int .i64 0]) (by simp [results, Tryd.results23, go_sem, e1, e2]) rfl ⟨(N, D, 0), rfl, AR.out, Bset1 (Bset1 K.out.n (by omega) _ _) (by omega) _ _⟩
  · have AR : Hid (NearR N D n (0, 0, errF N D)) := Lib.hid (.inl ⟨ck, rfl⟩)
    have ck' : (errF N D != 0) = true := by rw [bne_iff_ne]; exact ck
    generalize errF N D = er at *
    clear ck h
    go_enter Tryd.func23, Tryd.ntmps23
    go_wp2_with fail
    refine (C1.out _).mono ?_
    rintro e w1 ⟨rfl, hb⟩
    have K := Lib.hid ((P1.init w N D).next hb)
    clear hb
    have z0 := blk_cell K.out.z 0 _ rfl
    have z1 := blk_cell K.out.z 1 _ rfl
    have f0 := blk_frozen K.out.z 0
    have f1 := blk_frozen K.out.z 1
    have a0 := blk_cell K.out.a 0 _ rfl
    have a1 := blk_cell K.out.a 1 _ rfl
    have zl := blk_lt K.out.z
    go_wp2_with fail
    have e1 := blk_cell (blk_set (blk_set K.out.z 0 (.int .i64 0)) 1 (.int .i64 0)) 0 _ rfl
    have e2 := blk_cell (blk_set (blk_set K.out.z 0 (.int .i64 0)) 1 (.int .i64 0)) 1 _ rfl
    refine bodyPost_ret (v := .tuple #[Fv 0 0, .int .i64 er]) (by simp [results, Tryd.results23, go_sem, e1, e2]) rfl ⟨(0, 0, er), rfl, AR.out, Bset1 (Bset1 K.out.n (by omega) _ _) (by omega) _ _⟩
set_option maxRecDepth 100000 in
set_option maxHeartbeats 16000000 in
theorem near_deep (N D n : Int) (w : World) (ck : errF N D = 0) (n1 : 1 ≤ n) (n2 : n ≤ 1000000000000000000) (nd : n < D) :
    Calls Tryd.prog 23 #[Fv N D, .int .i64 n] w (NPost w N D n) := by
  have C1 := Lib.hid (fun W => check_calls N D W)
  rw [ck] at C1
  have hd := errF_ok ck
  have d1 := hd.d1
  have d2 := hd.d2
  have d3 := hd.n1
  have d4 := hd.n2
  have ARM : Hid (∀ x y, Farey.Near N D n x y → NearR N D n (x, y, 0)) := Lib.hid (fun x y hxy => .inr (.inr (.inr ⟨ck, n1, n2, nd, x, y, hxy, rfl⟩)))
  obtain ⟨X, hX⟩ : ∃ X : Nat, X = N.natAbs := ⟨_, rfl⟩
  have COP : Hid (Int.gcd (X : Int) D = 1) := Lib.hid (by rw [hX]; exact hd.g)
  have S1 : Hid (∀ W, Calls Tryd.prog 42 #[.int .i64 N] W fun e w' => e = .returned (.int .u64 (X : Int)) ∧ W = w') := Lib.hid (fun W => by rw [hX]; exact size_calls N W (by omega) (by omega))
  have HX := Lib.hid hX
  have x9 : X ≤ 1000000000000000000 := by omega
  have wX : wrap64 (X : Int) = (X : Int) := IntWalk.wrap64_in _ ⟨by omega, by omega⟩
  have SZ : Hid (∀ (z : Int) (W : World), 0 ≤ z → z ≤ 4000000000000000000 → Calls Tryd.prog 42 #[.int .i64 z] W fun e w' => e = .returned (.int .u64 z) ∧ W = w') := Lib.hid (fun z W h0 h1 => by
    have := size_calls z W (by omega) (by omega)
    rw [show ((z.natAbs : Nat) : Int) = z by omega] at this
    exact this)
  have CM : Hid (∀ (a b c d : Int) (W : World), 0 ≤ a → a ≤ 4000000000000000000 → 0 ≤ b → b ≤ 4000000000000000000 → 0 ≤ c → c ≤ 4000000000000000000 → 0 ≤ d → d ≤ 4000000000000000000 → Calls Tryd.prog 47 #[.int .u64 a, .int .u64 b, .int .u64 c, .int .u64 d] W fun e w' => e = .returned (.int .i64 (cmpI (a * b) (c * d))) ∧ W = w') := Lib.hid (fun a b c d W a0 a1 b0 b1 c0 c1 e0 e1 => by
    have := compare_calls a.natAbs b.natAbs c.natAbs d.natAbs W (by omega) (by omega) (by omega) (by omega)
    rw [natmul a0 b0, natmul c0 e0, show ((a.natAbs : Nat) : Int) = a by omega, show ((b.natAbs : Nat) : Int) = b by omega, show ((c.natAbs : Nat) : Int) = c by omega, show ((d.natAbs : Nat) : Int) = d by omega] at this
    exact this)
  clear hX ck hd
  have c1 : ¬ n < 1 := by omega
  have c2 : ¬ 1000000000000000000 < n := by omega
  have c3 : ¬ D ≤ n := by omega
  go_enter Tryd.func23, Tryd.ntmps23
  go_wp2_with fail
  refine (C1.out _).mono ?_
  rintro e w1 ⟨rfl, hb⟩
  have K := Lib.hid ((P1.init w N D).next hb)
  clear hb
  have z0 := blk_cell K.out.z 0 _ rfl
  have z1 := blk_cell K.out.z 1 _ rfl
  have f0 := blk_frozen K.out.z 0
  have f1 := blk_frozen K.out.z 1
  have a0 := blk_cell K.out.a 0 _ rfl
  have a1 := blk_cell K.out.a 1 _ rfl
  have zl := blk_lt K.out.z
  go_wp2_with fail
  go_quiet ((go_at_call 42; (with_reducible exact quiet_left (S1.out _))))
  clear z0 z1 f0 f1 a0 a1 zl wX
  replace K := Lib.hid (K.out.drewN nq)
  generalize w1.drewN nq = W at *
  go_wp2_with fail
  go_loop [7, 8, 9, 10, 11, 12] (fun sx sy sp0 sq0 sp1 sq1 => ∃ x y p0 q0 p1 q1 s : Int, sx = .int .i64 x ∧ sy = .int .i64 y ∧ sp0 = .int .i64 p0 ∧ sq0 = .int .i64 q0 ∧ sp1 = .int .i64 p1 ∧ sq1 = .int .i64 q1 ∧ x ≤ 1000000000000000000 ∧ y ≤ 1000000000000000000 ∧ 0 ≤ p0 ∧ 0 ≤ p1 ∧ p1 ≤ 2000000000000000000 ∧ Hid (Farey.LI X D n p0 q0 p1 q1 x y s)) (fun _ sy _ _ _ _ => (intOf sy).toNat)
  case atStart => exact ⟨X, D, 0, 1, 1, 0, 1, rfl, rfl, rfl, rfl, rfl, rfl, by omega, d2, by omega, by omega, by omega, Lib.hid ⟨by omega, by omega, by omega, by omega, by omega, d1, by omega, n1, by omega, by omega⟩⟩
  case round =>
    obtain ⟨x, y, p0, q0, p1, q1, s, rfl, rfl, rfl, rfl, rfl, rfl, x1, y2, p00, p10, p12, L⟩ := hrel
    have x0 := L.out.x0
    have y1 := L.out.y1
    have q00 := L.out.q00
    have q0n := L.out.q0n
    have q10 := L.out.q10
    have q1n := L.out.q1n
    obtain ⟨c, hc⟩ : ∃ c, x.tdiv y = c := ⟨_, rfl⟩
    have hc' : c = x / y := by rw [← hc, Int.tdiv_eq_ediv_of_nonneg x0]
    have e1 : c * y ≤ x := by rw [hc']; exact Int.ediv_mul_le x (by omega)
    have e2 : x < c * y + y := by have := Int.lt_ediv_add_one_mul_self x (show 0 < y by omega); rw [← hc', Int.add_mul, Int.one_mul] at this; exact this
    have c0 : 0 ≤ c := by rw [hc']; exact Int.ediv_nonneg x0 (by omega)
    obtain ⟨b1, b2, b3⟩ := L.out.bounds e1 c0
    obtain ⟨b4, b5, b6⟩ := L.out.boundsN e1 c0 p00 p10
    have cy0 := Int.mul_nonneg c0 (show 0 ≤ y by omega)
    have ny : ¬ y = 0 := by omega
    obtain ⟨cq, hcq⟩ : ∃ z, c * q1 = z := ⟨_, rfl⟩
    obtain ⟨cp, hcp⟩ : ∃ z, c * p1 = z := ⟨_, rfl⟩
    obtain ⟨cy, hcy⟩ : ∃ z, c * y = z := ⟨_, rfl⟩
    clear hc'
    by_cases hbr : cq + q0 ≤ n
    · have LN : Hid (Farey.LI X D n p1 q1 (cp + p0) (cq + q0) y (x - cy) (-s)) := Lib.hid (by
        have := L.out.step COP.out nd n1 e1 (by rw [hcq]; exact hbr) c0
        rw [hcq, hcp, hcy] at this
        exact this)
      rw [hcq] at b1 b2
      rw [hcp] at b4 b5
      rw [hcy] at e1 e2 cy0
      go_wp2_with fail
      refine ⟨⟨y, x - cy, p1, q1, cp + p0, cq + q0, -s, rfl, rfl, rfl, rfl, rfl, rfl, y2, by omega, p10, by omega, by omega, LN⟩, ?_⟩
      simp only [intOf]; omega
    · obtain ⟨m, hm⟩ : ∃ m, (n - q0).tdiv q1 = m := ⟨_, rfl⟩
      have q1p : 1 ≤ q1 := by
        by_cases e : q1 = 0
        · rw [e, Int.mul_zero] at hcq; omega
        · omega
      have hm' : m = (n - q0) / q1 := by rw [← hm, Int.tdiv_eq_ediv_of_nonneg (by omega)]
      have m1 : m * q1 ≤ n - q0 := by rw [hm']; exact Int.ediv_mul_le _ (by omega)
      have m2 : n - q0 < m * q1 + q1 := by have := Int.lt_ediv_add_one_mul_self (n - q0) (show 0 < q1 by omega); rw [← hm', Int.add_mul, Int.one_mul] at this; exact this
      obtain ⟨_, hs, m0, off1, fp1, fp2⟩ := L.out.fp e1 (by rw [hcq]; omega) m1 m2
      obtain ⟨g4, g5, g6⟩ := L.out.boundsN (c := m) (by omega) m0 p00 p10
      have my0 := Int.mul_nonneg m0 (show 0 ≤ y by omega)
      have mq0 := Int.mul_nonneg m0 q10
      have mn : m ≤ n := by have := Farey.le_mul_one m0 q1p; omega
      have LA := L.out.a
      have LB := L.out.b
      have FAC : Hid ((s = 1 ∨ s = -1) ∧ p1 * D - X * q1 = s * y ∧ X * (q0 + m * q1) - (p0 + m * p1) * D = s * (x - m * y) ∧ (s = 1 → Farey.FP X D n (p0 + m * p1) (q0 + m * q1) p1 q1) ∧ (s = -1 → Farey.FP X D n p1 q1 (p0 + m * p1) (q0 + m * q1))) := Lib.hid ⟨hs, by grind, by grind, fp1, fp2⟩
      obtain ⟨mq, hmq⟩ : ∃ z, m * q1 = z := ⟨_, rfl⟩
      obtain ⟨mp, hmp⟩ : ∃ z, m * p1 = z := ⟨_, rfl⟩
      obtain ⟨my, hmy⟩ : ∃ z, m * y = z := ⟨_, rfl⟩
      rw [hcq] at b1 b2
      rw [hcp] at b4 b5
      rw [hcy] at e1 e2 cy0
      rw [hmq] at m1 m2 mq0
      rw [hmp] at g4 g5
      rw [hmy] at off1 my0
      rw [hmq, hmp, hmy] at FAC
      obtain ⟨p2, hp2⟩ : ∃ z, p0 + mp = z := ⟨_, rfl⟩
      obtain ⟨q2, hq2⟩ : ∃ z, q0 + mq = z := ⟨_, rfl⟩
      obtain ⟨off, hoff⟩ : ∃ z, x - my = z := ⟨_, rfl⟩
      rw [hp2, hq2, hoff] at FAC
      have g7 : 0 ≤ p2 ∧ p2 ≤ 2000000000000000000 := by omega
      have g8 : 1 ≤ q2 ∧ q2 ≤ n := by omega
      have g9 : 1 ≤ off ∧ off ≤ 1000000000000000000 := by omega
      obtain ⟨g71, g72⟩ := g7
      obtain ⟨g81, g82⟩ := g8
      obtain ⟨g91, g92⟩ := g9
      clear fp1 fp2 hs LA LB hm' L e2
      have nq1 : ¬ q1 = 0 := by omega
      by_cases ns : N < 0
      · have PK_ : Hid ((y * q2 < off * q1 ∨ (y * q2 = off * q1 ∧ (-p1) * q2 < (-p2) * q1) → Farey.Near N D n (-p1) q1) ∧ (¬ (y * q2 < off * q1 ∨ (y * q2 = off * q1 ∧ (-p1) * q2 < (-p2) * q1)) → Farey.Near N D n (-p2) q2)) := Lib.hid (by
          have hN : N = -(X : Int) := by have := HX.out; omega
          obtain ⟨hs, f1, f2, f3, f4⟩ := FAC.out
          rw [hN]
          exact Farey.pick (s := -s) (by omega) (by grind) (by grind) (fun h => (f4 (by omega)).neg) (fun h => (f3 (by omega)).neg))
        have a0 := blk_cell K.out.a 0 _ rfl
        have al := blk_lt K.out.a
        go_wp2_with fail
        go_region
        have K2 : Hid (P1 w (((W.alloc (.cells #[.int .i64 (-p1), .int .i64 q1] 23)).alloc (.cells #[.int .i64 (-p2), .int .i64 q2] 23)).drew) N D) := Lib.hid (K.out.next (Bal (Bal (Below.refl _ _) _) _).drew)
        have O1 : Hid ((((W.alloc (.cells #[.int .i64 (-p1), .int .i64 q1] 23)).alloc (.cells #[.int .i64 (-p2), .int .i64 q2] 23)).drew).heap[W.heap.size]? = some (.cells #[.int .i64 (-p1), .int .i64 q1] 23)) := Lib.hid (blk1 W _ _)
        have O2 : Hid ((((W.alloc (.cells #[.int .i64 (-p1), .int .i64 q1] 23)).alloc (.cells #[.int .i64 (-p2), .int .i64 q2] 23)).drew).heap[W.heap.size + 1]? = some (.cells #[.int .i64 (-p2), .int .i64 q2] 23)) := Lib.hid (blk2 W _ _)
        clear a0 al
        generalize ((W.alloc (.cells #[.int .i64 (-p1), .int .i64 q1] 23)).alloc (.cells #[.int .i64 (-p2), .int .i64 q2] 23)).drew = W2 at *
        generalize W.heap.size + 1 = g2 at *
        generalize W.heap.size = g1 at *
        have u1 := blk_cell O1.out 1 _ rfl
        have u2 := blk_cell O2.out 1 _ rfl
        have ul1 := blk_lt O1.out
        have ul2 := blk_lt O2.out
        have SA := Lib.hid (fun W => SZ.out y W (by omega) (by omega))
        have SB := Lib.hid (fun W => SZ.out q2 W (by omega) (by omega))
        have SC := Lib.hid (fun W => SZ.out off W (by omega) (by omega))
        have SD := Lib.hid (fun W => SZ.out q1 W (by omega) (by omega))
        have CF := Lib.hid (fun W => CM.out y q2 off q1 W (by omega) (by omega) (by omega) (by omega) (by omega) (by omega) (by omega) (by omega))
        go_wp2_with fail
        go_quiet ((first | (go_at_call 42; (with_reducible exact quiet_left (SA.out _))) | (go_at_call 42; (with_reducible exact quiet_left (SB.out _))) | (go_at_call 42; (with_reducible exact quiet_left (SC.out _))) | (go_at_call 42; (with_reducible exact quiet_left (SD.out _))) | (go_at_call 47; (with_reducible exact quiet_left (CF.out _)))))
        clear u1 u2 ul1 ul2
        replace K2 := Lib.hid (K2.out.drewN nq)
        replace O1 : Hid ((W2.drewN nq).heap[g1]? = some (.cells #[.int .i64 (-p1), .int .i64 q1] 23)) := Lib.hid O1.out
        replace O2 : Hid ((W2.drewN nq).heap[g2]? = some (.cells #[.int .i64 (-p2), .int .i64 q2] 23)) := Lib.hid O2.out
        generalize W2.drewN nq = W3 at *
        have OC := Lib.hid (fun W => order_calls (-p1) q1 (-p2) q2 W (by omega) (by omega) (by omega) (by omega) (by omega) (by omega) (by omega) (by omega))
        have ul1 := blk_lt O1.out
        have ul2 := blk_lt O2.out
        have u1 := blk_cell O1.out 1 _ rfl
        have u2 := blk_cell O2.out 1 _ rfl
        have t1 := blk_cell O1.out 0 _ rfl
        have t2 := blk_cell O2.out 0 _ rfl
        have z0 := blk_cell K2.out.z 0 _ rfl
        have z1 := blk_cell K2.out.z 1 _ rfl
        have f0 := blk_frozen K2.out.z 0
        have f1 := blk_frozen K2.out.z 1
        have zl := blk_lt K2.out.z
        replace K := K2
        rcases Int.lt_trichotomy (y * q2) (off * q1) with hl | hl | hl
        · have R : cmpI (y * q2) (off * q1) = -1 := cmpI_lt hl
          rw [R]
          have AN := Lib.hid (PK_.out.1 (.inl hl))
          clear hl R
          go_wp2_with fail
          have e1 := blk_cell (blk_set (blk_set K.out.z 0 (.int .i64 (-p1))) 1 (.int .i64 q1)) 0 _ rfl
          have e2 := blk_cell (blk_set (blk_set K.out.z 0 (.int .i64 (-p1))) 1 (.int .i64 q1)) 1 _ rfl
          refine bodyPost_ret (v := .tuple #[Fv (-p1) q1, .int .i64 0]) (by simp [results, Tryd.results23, go_sem, e1, e2]) rfl ⟨((-p1), q1, 0), rfl, ARM.out _ _ (AN.out), Bset1 (Bset1 K.out.n (by omega) _ _) (by omega) _ _⟩
        · have R : cmpI (y * q2) (off * q1) = 0 := cmpI_eq hl
          rw [R]
          by_cases ho : (-p1) * q2 < (-p2) * q1
          · have AN := Lib.hid (PK_.out.1 (.inr ⟨hl, ho⟩))
            have R2 : cmpI ((-p1) * q2) ((-p2) * q1) = -1 := cmpI_lt ho
            rw [R2] at OC
            clear hl R ho
            go_wp2_with fail
            refine (OC.out _).mono ?_
            rintro e w5 ⟨rfl, hb⟩
            replace K := Lib.hid (K.out.next hb)
            replace O1 := Lib.hid (blk_next hb O1.out)
            replace O2 := Lib.hid (blk_next hb O2.out)
            clear hb z0 z1 f0 f1 zl u1 u2 t1 t2 ul1 ul2
            have ul1 := blk_lt O1.out
            have ul2 := blk_lt O2.out
            have u1 := blk_cell O1.out 1 _ rfl
            have u2 := blk_cell O2.out 1 _ rfl
            have t1 := blk_cell O1.out 0 _ rfl
            have t2 := blk_cell O2.out 0 _ rfl
            have z0 := blk_cell K.out.z 0 _ rfl
            have z1 := blk_cell K.out.z 1 _ rfl
            have f0 := blk_frozen K.out.z 0
            have f1 := blk_frozen K.out.z 1
            have zl := blk_lt K.out.z
            go_wp2_with fail
            have e1 := blk_cell (blk_set (blk_set K.out.z 0 (.int .i64 (-p1))) 1 (.int .i64 q1)) 0 _ rfl
            have e2 := blk_cell (blk_set (blk_set K.out.z 0 (.int .i64 (-p1))) 1 (.int .i64 q1)) 1 _ rfl
            refine bodyPost_ret (v := .tuple #[Fv (-p1) q1, .int .i64 0]) (by simp [results, Tryd.results23, go_sem, e1, e2]) rfl ⟨((-p1), q1, 0), rfl, ARM.out _ _ (AN.out), Bset1 (Bset1 K.out.n (by omega) _ _) (by omega) _ _⟩
          · have AN := Lib.hid (PK_.out.2 (fun h => by rcases h with h | ⟨_, h⟩; omega; exact ho h))
            have R2 : 0 ≤ cmpI ((-p1) * q2) ((-p2) * q1) := by rcases Int.lt_trichotomy ((-p1) * q2) ((-p2) * q1) with h | h | h; exact absurd h ho; rw [cmpI_eq h]; omega; rw [cmpI_gt h]; omega
            generalize cmpI ((-p1) * q2) ((-p2) * q1) = r2 at *
            clear hl R ho
            go_wp2_with fail
            refine (OC.out _).mono ?_
            rintro e w5 ⟨rfl, hb⟩
            replace K := Lib.hid (K.out.next hb)
            replace O1 := Lib.hid (blk_next hb O1.out)
            replace O2 := Lib.hid (blk_next hb O2.out)
            clear hb z0 z1 f0 f1 zl u1 u2 t1 t2 ul1 ul2
            have ul1 := blk_lt O1.out
            have ul2 := blk_lt O2.out
            have u1 := blk_cell O1.out 1 _ rfl
            have u2 := blk_cell O2.out 1 _ rfl
            have t1 := blk_cell O1.out 0 _ rfl
            have t2 := blk_cell O2.out 0 _ rfl
            have z0 := blk_cell K.out.z 0 _ rfl
            have z1 := blk_cell K.out.z 1 _ rfl
            have f0 := blk_frozen K.out.z 0
            have f1 := blk_frozen K.out.z 1
            have zl := blk_lt K.out.z
            go_wp2_with fail
            have e1 := blk_cell (blk_set (blk_set K.out.z 0 (.int .i64 (-p2))) 1 (.int .i64 q2)) 0 _ rfl
            have e2 := blk_cell (blk_set (blk_set K.out.z 0 (.int .i64 (-p2))) 1 (.int .i64 q2)) 1 _ rfl
            refine bodyPost_ret (v := .tuple #[Fv (-p2) q2, .int .i64 0]) (by simp [results, Tryd.results23, go_sem, e1, e2]) rfl ⟨((-p2), q2, 0), rfl, ARM.out _ _ (AN.out), Bset1 (Bset1 K.out.n (by omega) _ _) (by omega) _ _⟩
        · have R : cmpI (y * q2) (off * q1) = 1 := cmpI_gt hl
          rw [R]
          have AN := Lib.hid (PK_.out.2 (fun h => by rcases h with h | ⟨h, _⟩ <;> omega))
          clear hl R
          go_wp2_with fail
          have e1 := blk_cell (blk_set (blk_set K.out.z 0 (.int .i64 (-p2))) 1 (.int .i64 q2)) 0 _ rfl
          have e2 := blk_cell (blk_set (blk_set K.out.z 0 (.int .i64 (-p2))) 1 (.int .i64 q2)) 1 _ rfl
          refine bodyPost_ret (v := .tuple #[Fv (-p2) q2, .int .i64 0]) (by simp [results, Tryd.results23, go_sem, e1, e2]) rfl ⟨((-p2), q2, 0), rfl, ARM.out _ _ (AN.out), Bset1 (Bset1 K.out.n (by omega) _ _) (by omega) _ _⟩
      · have PK_ : Hid ((y * q2 < off * q1 ∨ (y * q2 = off * q1 ∧ p1 * q2 < p2 * q1) → Farey.Near N D n p1 q1) ∧ (¬ (y * q2 < off * q1 ∨ (y * q2 = off * q1 ∧ p1 * q2 < p2 * q1)) → Farey.Near N D n p2 q2)) := Lib.hid (by
          have hN : N = (X : Int) := by have := HX.out; omega
          obtain ⟨hs, f1, f2, f3, f4⟩ := FAC.out
          rw [hN]
          exact Farey.pick hs f1 f2 f3 f4)
        have a0 := blk_cell K.out.a 0 _ rfl
        have al := blk_lt K.out.a
        go_wp2_with fail
        have K2 : Hid (P1 w (((W.alloc (.cells #[.int .i64 p1, .int .i64 q1] 23)).alloc (.cells #[.int .i64 p2, .int .i64 q2] 23))) N D) := Lib.hid (K.out.next (Bal (Bal (Below.refl _ _) _) _))
        have O1 : Hid ((((W.alloc (.cells #[.int .i64 p1, .int .i64 q1] 23)).alloc (.cells #[.int .i64 p2, .int .i64 q2] 23))).heap[W.heap.size]? = some (.cells #[.int .i64 p1, .int .i64 q1] 23)) := Lib.hid (blk1 W _ _)
        have O2 : Hid ((((W.alloc (.cells #[.int .i64 p1, .int .i64 q1] 23)).alloc (.cells #[.int .i64 p2, .int .i64 q2] 23))).heap[W.heap.size + 1]? = some (.cells #[.int .i64 p2, .int .i64 q2] 23)) := Lib.hid (blk2 W _ _)
        clear a0 al
        generalize ((W.alloc (.cells #[.int .i64 p1, .int .i64 q1] 23)).alloc (.cells #[.int .i64 p2, .int .i64 q2] 23)) = W2 at *
        generalize W.heap.size + 1 = g2 at *
        generalize W.heap.size = g1 at *
        have u1 := blk_cell O1.out 1 _ rfl
        have u2 := blk_cell O2.out 1 _ rfl
        have ul1 := blk_lt O1.out
        have ul2 := blk_lt O2.out
        have SA := Lib.hid (fun W => SZ.out y W (by omega) (by omega))
        have SB := Lib.hid (fun W => SZ.out q2 W (by omega) (by omega))
        have SC := Lib.hid (fun W => SZ.out off W (by omega) (by omega))
        have SD := Lib.hid (fun W => SZ.out q1 W (by omega) (by omega))
        have CF := Lib.hid (fun W => CM.out y q2 off q1 W (by omega) (by omega) (by omega) (by omega) (by omega) (by omega) (by omega) (by omega))
        go_wp2_with fail
        go_quiet ((first | (go_at_call 42; (with_reducible exact quiet_left (SA.out _))) | (go_at_call 42; (with_reducible exact quiet_left (SB.out _))) | (go_at_call 42; (with_reducible exact quiet_left (SC.out _))) | (go_at_call 42; (with_reducible exact quiet_left (SD.out _))) | (go_at_call 47; (with_reducible exact quiet_left (CF.out _)))))
        clear u1 u2 ul1 ul2
        replace K2 := Lib.hid (K2.out.drewN nq)
        replace O1 : Hid ((W2.drewN nq).heap[g1]? = some (.cells #[.int .i64 p1, .int .i64 q1] 23)) := Lib.hid O1.out
        replace O2 : Hid ((W2.drewN nq).heap[g2]? = some (.cells #[.int .i64 p2, .int .i64 q2] 23)) := Lib.hid O2.out
        generalize W2.drewN nq = W3 at *
        have OC := Lib.hid (fun W => order_calls p1 q1 p2 q2 W (by omega) (by omega) (by omega) (by omega) (by omega) (by omega) (by omega) (by omega))
        have ul1 := blk_lt O1.out
        have ul2 := blk_lt O2.out
        have u1 := blk_cell O1.out 1 _ rfl
        have u2 := blk_cell O2.out 1 _ rfl
        have t1 := blk_cell O1.out 0 _ rfl
        have t2 := blk_cell O2.out 0 _ rfl
        have z0 := blk_cell K2.out.z 0 _ rfl
        have z1 := blk_cell K2.out.z 1 _ rfl
        have f0 := blk_frozen K2.out.z 0
        have f1 := blk_frozen K2.out.z 1
        have zl := blk_lt K2.out.z
        replace K := K2
        rcases Int.lt_trichotomy (y * q2) (off * q1) with hl | hl | hl
        · have R : cmpI (y * q2) (off * q1) = -1 := cmpI_lt hl
          rw [R]
          have AN := Lib.hid (PK_.out.1 (.inl hl))
          clear hl R
          go_wp2_with fail
          have e1 := blk_cell (blk_set (blk_set K.out.z 0 (.int .i64 p1)) 1 (.int .i64 q1)) 0 _ rfl
          have e2 := blk_cell (blk_set (blk_set K.out.z 0 (.int .i64 p1)) 1 (.int .i64 q1)) 1 _ rfl
          refine bodyPost_ret (v := .tuple #[Fv p1 q1, .int .i64 0]) (by simp [results, Tryd.results23, go_sem, e1, e2]) rfl ⟨(p1, q1, 0), rfl, ARM.out _ _ (AN.out), Bset1 (Bset1 K.out.n (by omega) _ _) (by omega) _ _⟩
        · have R : cmpI (y * q2) (off * q1) = 0 := cmpI_eq hl
          rw [R]
          by_cases ho : p1 * q2 < p2 * q1
          · have AN := Lib.hid (PK_.out.1 (.inr ⟨hl, ho⟩))
            have R2 : cmpI (p1 * q2) (p2 * q1) = -1 := cmpI_lt ho
            rw [R2] at OC
            clear hl R ho
            go_wp2_with fail
            refine (OC.out _).mono ?_
            rintro e w5 ⟨rfl, hb⟩
            replace K := Lib.hid (K.out.next hb)
            replace O1 := Lib.hid (blk_next hb O1.out)
            replace O2 := Lib.hid (blk_next hb O2.out)
            clear hb z0 z1 f0 f1 zl u1 u2 t1 t2 ul1 ul2
            have ul1 := blk_lt O1.out
            have ul2 := blk_lt O2.out
            have u1 := blk_cell O1.out 1 _ rfl
            have u2 := blk_cell O2.out 1 _ rfl
            have t1 := blk_cell O1.out 0 _ rfl
            have t2 := blk_cell O2.out 0 _ rfl
            have z0 := blk_cell K.out.z 0 _ rfl
            have z1 := blk_cell K.out.z 1 _ rfl
            have f0 := blk_frozen K.out.z 0
            have f1 := blk_frozen K.out.z 1
            have zl := blk_lt K.out.z
            go_wp2_with fail
            have e1 := blk_cell (blk_set (blk_set K.out.z 0 (.int .i64 p1)) 1 (.int .i64 q1)) 0 _ rfl
            have e2 := blk_cell (blk_set (blk_set K.out.z 0 (.int .i64 p1)) 1 (.int .i64 q1)) 1 _ rfl
            refine bodyPost_ret (v := .tuple #[Fv p1 q1, .int .i64 0]) (by simp [results, Tryd.results23, go_sem, e1, e2]) rfl ⟨(p1, q1, 0), rfl, ARM.out _ _ (AN.out), Bset1 (Bset1 K.out.n (by omega) _ _) (by omega) _ _⟩
          · have AN := Lib.hid (PK_.out.2 (fun h => by rcases h with h | ⟨_, h⟩; omega; exact ho h))
            have R2 : 0 ≤ cmpI (p1 * q2) (p2 * q1) := by rcases Int.lt_trichotomy (p1 * q2) (p2 * q1) with h | h | h; exact absurd h ho; rw [cmpI_eq h]; omega; rw [cmpI_gt h]; omega
            generalize cmpI (p1 * q2) (p2 * q1) = r2 at *
            clear hl R ho
            go_wp2_with fail
            refine (OC.out _).mono ?_
            rintro e w5 ⟨rfl, hb⟩
            replace K := Lib.hid (K.out.next hb)
            replace O1 := Lib.hid (blk_next hb O1.out)
            replace O2 := Lib.hid (blk_next hb O2.out)
            clear hb z0 z1 f0 f1 zl u1 u2 t1 t2 ul1 ul2
            have ul1 := blk_lt O1.out
            have ul2 := blk_lt O2.out
            have u1 := blk_cell O1.out 1 _ rfl
            have u2 := blk_cell O2.out 1 _ rfl
            have t1 := blk_cell O1.out 0 _ rfl
            have t2 := blk_cell O2.out 0 _ rfl
            have z0 := blk_cell K.out.z 0 _ rfl
            have z1 := blk_cell K.out.z 1 _ rfl
            have f0 := blk_frozen K.out.z 0
            have f1 := blk_frozen K.out.z 1
            have zl := blk_lt K.out.z
            go_wp2_with fail
            have e1 := blk_cell (blk_set (blk_set K.out.z 0 (.int .i64 p2)) 1 (.int .i64 q2)) 0 _ rfl
            have e2 := blk_cell (blk_set (blk_set K.out.z 0 (.int .i64 p2)) 1 (.int .i64 q2)) 1 _ rfl
            refine bodyPost_ret (v := .tuple #[Fv p2 q2, .int .i64 0]) (by simp [results, Tryd.results23, go_sem, e1, e2]) rfl ⟨(p2, q2, 0), rfl, ARM.out _ _ (AN.out), Bset1 (Bset1 K.out.n (by omega) _ _) (by omega) _ _⟩
        · have R : cmpI (y * q2) (off * q1) = 1 := cmpI_gt hl
          rw [R]
          have AN := Lib.hid (PK_.out.2 (fun h => by rcases h with h | ⟨h, _⟩ <;> omega))
          clear hl R
          go_wp2_with fail
          have e1 := blk_cell (blk_set (blk_set K.out.z 0 (.int .i64 p2)) 1 (.int .i64 q2)) 0 _ rfl
          have e2 := blk_cell (blk_set (blk_set K.out.z 0 (.int .i64 p2)) 1 (.int .i64 q2)) 1 _ rfl
          refine bodyPost_ret (v := .tuple #[Fv p2 q2, .int .i64 0]) (by simp [results, Tryd.results23, go_sem, e1, e2]) rfl ⟨(p2, q2, 0), rfl, ARM.out _ _ (AN.out), Bset1 (Bset1 K.out.n (by omega) _ _) (by omega) _ _⟩
theorem near_calls (N D n : Int) (w : World) :
    Calls Tryd.prog 23 #[Fv N D, .int .i64 n] w (NPost w N D n) := by
  by_cases h : errF N D ≠ 0 ∨ n < 1 ∨ 1000000000000000000 < n ∨ D ≤ n
  · exact near_easy N D n w h
  · exact near_deep N D n w (by omega) (by omega) (by omega) (by omega)
end Go.Proofs.YtpeoecgehdicmaaDoor
