/- Several texts in one. -/
import Derived.Laws.Externs
import Derived.Shelf.Spec.BitsCarry
import Derived.Test.YtfangplfbbgphaaGreatDoorMN01
import Derived.Test.YtfangplfbbgphaaGreatDoorMN03
namespace Go.Proofs.YtfangplfbbgphaaGreatDoor
open Go.ChangeShapes Go.WideShapes Go.ChangeAt Go.RowKit
set_option linter.unusedVariables false
set_option maxRecDepth 100000
attribute [local go_sem ↓] Go.wp_at_zero Go.wp_at_succ
def tl (neg : Bool) (X g d1 d2 : Nat) : Int × Int × Int := lowF neg (X / Nat.gcd g (X % g)) ((d1 / g) * (d2 / Nat.gcd g (X % g)))
def sumP (an bn : Int) (P Q g y v : Nat) : Int × Int × Int :=
 if decide (an < 0) = decide (bn < 0) then tl (decide (an < 0)) (P + Q) g y v else if Q ≤ P then tl (decide (an < 0)) (P - Q) g y v else tl (decide (bn < 0)) (Q - P) g y v
theorem tl_tail {neg : Bool} {X g d1 d2 : Nat} (hg : 0 < g) (hX : X ≠ 0) : tl neg X g d1 d2 = tailF neg X g d1 d2 := by
 have hd : Nat.gcd (X % g) g ∣ X := by
  have := Nat.gcd_dvd_left X g
  rwa [Nat.gcd_comm X g, Nat.gcd_rec] at this
 unfold tl tailF
 rw [Nat.gcd_comm g]
 rw [if_neg]
 intro h
 have := Nat.div_mul_cancel hd
 rw [h] at this; omega
theorem tl_sym {neg : Bool} {X g d1 d2 : Nat} (hg : 0 < g) (h1 : g ∣ d1) (h2 : g ∣ d2) : tl neg X g d1 d2 = tl neg X g d2 d1 := by
 unfold tl
 have hd : Nat.gcd g (X % g) ∣ g := Nat.gcd_dvd_left _ _
 have hp : 0 < Nat.gcd g (X % g) := Nat.gcd_pos_of_pos_left _ hg
 generalize Nat.gcd g (X % g) = h at *
 obtain ⟨a, rfl⟩ := h1
 obtain ⟨b, rfl⟩ := h2
 obtain ⟨k, rfl⟩ := hd
 congr 1
 rw [Nat.mul_div_cancel_left _ hg, Nat.mul_div_cancel_left _ hg, Nat.mul_assoc, Nat.mul_assoc, Nat.mul_div_cancel_left _ hp, Nat.mul_div_cancel_left _ hp]
 grind
theorem same_one {x u y v g : Nat} (hg : 0 < g) (h1 : g ∣ y) (h2 : g ∣ v) (cy : Nat.gcd x y = 1) (cv : Nat.gcd u v = 1) (co : Nat.gcd (y / g) (v / g) = 1) (e : x * (v / g) = u * (y / g)) : y / g = 1 ∧ v / g = 1 := by
 have d1 : y / g ∣ y := Nat.div_dvd_of_dvd h1
 have d2 : v / g ∣ v := Nat.div_dvd_of_dvd h2
 have a1 : y / g ∣ x := Nat.Coprime.dvd_of_dvd_mul_right (show Nat.Coprime (y / g) (v / g) from co) (e ▸ Nat.dvd_mul_left _ _)
 have a2 : v / g ∣ u := Nat.Coprime.dvd_of_dvd_mul_right (show Nat.Coprime (v / g) (y / g) from Nat.Coprime.symm co) (e ▸ Nat.dvd_mul_left _ _)
 exact ⟨Nat.eq_one_of_dvd_one (cy ▸ Nat.dvd_gcd a1 d1), Nat.eq_one_of_dvd_one (cv ▸ Nat.dvd_gcd a2 d2)⟩
theorem tl_zero {neg : Bool} {g d1 d2 : Nat} (hg : 0 < g) (e1 : d1 / g = 1) (e2 : d2 / g = 1) : tl neg 0 g d1 d2 = (0, 1, 0) := by
 unfold tl
 rw [Nat.zero_mod, Nat.gcd_zero_right, Nat.zero_div, e1, e2, lowF_zero]
 simp [lowF]
theorem tailF_zero {neg : Bool} {g d1 d2 : Nat} : tailF neg 0 g d1 d2 = (0, 1, 0) := by
 unfold tailF
 rw [if_pos (Nat.zero_div _)]
theorem sumP_eq {an ad bn bd : Int} (va : VF an ad) (vb : VF bn bd) :
  sumP an bn (an.natAbs * (bd.natAbs / Nat.gcd ad.natAbs bd.natAbs)) (bn.natAbs * (ad.natAbs / Nat.gcd ad.natAbs bd.natAbs)) (Nat.gcd ad.natAbs bd.natAbs) ad.natAbs bd.natAbs = addF an ad bn bd := by
 have d1 := va.d1
 have hg : 0 < Nat.gcd ad.natAbs bd.natAbs := Nat.gcd_pos_of_pos_left _ (by omega)
 have so := fun e => same_one (x := an.natAbs) (u := bn.natAbs) hg (Nat.gcd_dvd_left _ _) (Nat.gcd_dvd_right _ _) va.g vb.g (Nat.coprime_div_gcd_div_gcd hg) e
 have h1 : Nat.gcd ad.natAbs bd.natAbs ∣ ad.natAbs := Nat.gcd_dvd_left _ _
 have h2 : Nat.gcd ad.natAbs bd.natAbs ∣ bd.natAbs := Nat.gcd_dvd_right _ _
 unfold addF addP sumP
 generalize Nat.gcd ad.natAbs bd.natAbs = g at *
 generalize ad.natAbs = y at *
 generalize bd.natAbs = v at *
 generalize an.natAbs * (v / g) = P at *
 generalize bn.natAbs * (y / g) = Q at *
 by_cases c : decide (an < 0) = decide (bn < 0)
 ·rw [if_pos c, if_pos c]
  by_cases z : P + Q = 0
  ·obtain ⟨o1, o2⟩ := so (by omega)
   rw [z, tl_zero hg o1 o2, tailF_zero]
  ·exact tl_tail hg z
 ·rw [if_neg c, if_neg c]
  by_cases l : Q ≤ P
  ·rw [if_pos l, if_neg (by omega)]
   by_cases z : P - Q = 0
   ·obtain ⟨o1, o2⟩ := so (by omega)
    rw [z, tl_zero hg o1 o2, tailF_zero]
   ·exact tl_tail hg z
  ·rw [if_neg l, if_pos (by omega), tl_sym hg h1 h2]
   exact tl_tail hg (by omega)
theorem div_small {hi lo h X : Nat} (h0 : 0 < h) (e : hi * 18446744073709551616 + lo = X) (hl : hi < h) (l : lo < 18446744073709551616) : X / h < 18446744073709551616 := by
 refine (Nat.div_lt_iff_lt_mul h0).2 ?_
 omega
theorem div_large {hi lo h X : Nat} (h0 : 0 < h) (e : hi * 18446744073709551616 + lo = X) (big : h ≤ hi) : 1000000000000000000 < X / h := by
 have : 18446744073709551616 ≤ X / h := (Nat.le_div_iff_mul_le h0).2 (by omega)
 omega
theorem add64_run (x y c : Nat) (hc : c ≤ 1) (w : World) : (callFunc 103 #[.int .u64 x, .int .u64 y, .int .u64 c]).run Tryz.prog w =
  .ok (.value (.tuple #[.int .u64 (((x + y + c) % 18446744073709551616 : Nat) : Int), .int .u64 (((x + y + c) / 18446744073709551616 : Nat) : Int)])) w := by
 rw [run_callFunc_extern Tryz.func103 (by kernel_rfl) (by kernel_rfl) (by kernel_rfl) (e := add64Entry) (by kernel_rfl), run_add64 x y c (by omega) (by omega) (by omega) (by omega)]
 simp only [Result.andThen]
 congr 5 <;> omega
theorem sub64_run (x y b : Nat) (hb : b ≤ 1) (w : World) : (callFunc 105 #[.int .u64 x, .int .u64 y, .int .u64 b]).run Tryz.prog w =
  .ok (.value (.tuple #[.int .u64 (((x + 18446744073709551616 - y - b) % 18446744073709551616 : Nat) : Int), .int .u64 ((if x < y + b then 1 else 0 : Nat) : Int)])) w := by
 rw [run_callFunc_extern Tryz.func105 (by kernel_rfl) (by kernel_rfl) (by kernel_rfl) (e := sub64Entry) (by kernel_rfl), run_sub64 x y b hb]
 rfl
theorem rem64_calls (hi lo y : Nat) (w : World) (h1 : 0 < y) (h2 : y < 18446744073709551616) (h3 : lo < 18446744073709551616) (h4 : hi < 18446744073709551616) :
  Calls Tryz.prog 106 #[.int .u64 hi, .int .u64 lo, .int .u64 y] w fun e w' => e = .returned (.int .u64 ((hi * 18446744073709551616 + lo) % y : Nat)) ∧ ∃ m, w' = w.drewN m := by
 have rl : hi % y < y := Nat.mod_lt _ h1
 have D := Lib.hid (fun W => div64_calls (hi % y) lo y W rl h2 h3)
 have e : (hi % y * 18446744073709551616 + lo) % y = (hi * 18446744073709551616 + lo) % y := by
  rw [Nat.add_mod, Nat.mul_mod, Nat.mod_mod, ← Nat.mul_mod, ← Nat.add_mod]
 rw [e] at D
 clear e
 have a1 : (hi : Int) % (y : Int) = ((hi % y : Nat) : Int) := (Int.natCast_emod hi y).symm
 have yn : ¬ y = 0 := by omega
 generalize hi % y = r at *
 generalize (hi * 18446744073709551616 + lo) % y = res at *
 generalize (r * 18446744073709551616 + lo) / y = qq at *
 go_enter Tryz.func106, Tryz.ntmps106
 go_wp2_with fail
 refine (D.out _).mono ?_
 rintro e w1 ⟨rfl, m, rfl⟩
 go_wp2_with fail
 go_ret
 exact ⟨rfl, m, rfl⟩
set_option maxRecDepth 100000 in
set_option maxHeartbeats 16000000 in
theorem sum_calls (an ad bn bd : Int) (w : World) (va : VF an ad) (vb : VF bn bd) :
  Calls Tryz.prog 71 #[Fv an ad, Fv bn bd] w fun e w' => e = .returned (Rv (addF an ad bn bd)) ∧ Below w.heap.size w w' := by
 have F := Lib.hid (sumP_eq va vb)
 generalize addF an ad bn bd = res at *
 have a1 := va.d1
 have a2 := va.d2
 have a3 := va.n1
 have a4 := va.n2
 have b1 := vb.d1
 have b2 := vb.d2
 have b3 := vb.n1
 have b4 := vb.n2
 clear va vb
 have S1 := Lib.hid (fun W => size_calls an W (by omega) (by omega))
 have S2 := Lib.hid (fun W => size_calls ad W (by omega) (by omega))
 have S3 := Lib.hid (fun W => size_calls bn W (by omega) (by omega))
 have S4 := Lib.hid (fun W => size_calls bd W (by omega) (by omega))
 have hx : an.natAbs ≤ 1000000000000000000 := by omega
 have hy : ad.natAbs ≤ 1000000000000000000 := by omega
 have hu : bn.natAbs ≤ 1000000000000000000 := by omega
 have hv : bd.natAbs ≤ 1000000000000000000 := by omega
 have hg0 : 0 < Nat.gcd ad.natAbs bd.natAbs := Nat.gcd_pos_of_pos_right _ (by omega)
 have hg1 : Nat.gcd ad.natAbs bd.natAbs ≤ bd.natAbs := Nat.gcd_le_right _ (by omega)
 generalize an.natAbs = x at *
 generalize ad.natAbs = y at *
 generalize bn.natAbs = u at *
 generalize bd.natAbs = v at *
 have G1 := Lib.hid (fun W => gcd_calls y v W (by omega) (by omega))
 generalize Nat.gcd y v = g at *
 have t3 := tdivN y g
 have t4 := tdivN v g
 have l3 : y / g ≤ 1000000000000000000 := Nat.le_trans (Nat.div_le_self _ _) hy
 have l4 : v / g ≤ 1000000000000000000 := Nat.le_trans (Nat.div_le_self _ _) hv
 obtain ⟨y1, hy1⟩ : ∃ y1, y / g = y1 := ⟨_, rfl⟩
 obtain ⟨v1, hv1⟩ : ∃ v1, v / g = v1 := ⟨_, rfl⟩
 rw [hy1] at t3 l3 F
 rw [hv1] at t4 l4 F
 have M1 := Lib.hid (fun W => mul64_calls x v1 W (by omega) (by omega))
 have M2 := Lib.hid (fun W => mul64_calls u y1 W (by omega) (by omega))
 have q1 : x * v1 ≤ 1000000000000000000000000000000000000 := Nat.mul_le_mul hx l4
 have q2 : u * y1 ≤ 1000000000000000000000000000000000000 := Nat.mul_le_mul hu l3
 generalize x * v1 = P at *
 generalize u * y1 = Q at *
 have p1 : P % 18446744073709551616 < 18446744073709551616 := Nat.mod_lt _ (by omega)
 have p2 : Q % 18446744073709551616 < 18446744073709551616 := Nat.mod_lt _ (by omega)
 have p3 := Nat.div_add_mod P 18446744073709551616
 have p4 := Nat.div_add_mod Q 18446744073709551616
 have WC := Lib.hid (fun W => wider_calls (P / 18446744073709551616) (P % 18446744073709551616) (Q / 18446744073709551616) (Q % 18446744073709551616) W p1 p2)
 rw [p3, p4] at WC
 generalize P / 18446744073709551616 = ah at *
 generalize P % 18446744073709551616 = al at *
 generalize Q / 18446744073709551616 = bh at *
 generalize Q % 18446744073709551616 = bl at *
 have P1 := Lib.hid p1
 have P2 := Lib.hid p2
 have P3 := Lib.hid p3
 have P4 := Lib.hid p4
 have Q1 := Lib.hid q1
 have Q2 := Lib.hid q2
 have HV := Lib.hid hv1
 clear p1 p2 p3 p4 q1 q2 hv1
 have gn : ¬ g = 0 := by omega
 have wy : IntKind.u64.wrap (y1 : Int) = (y1 : Int) := wrapN _ (by omega)
 have wv : IntKind.u64.wrap (v1 : Int) = (v1 : Int) := wrapN _ (by omega)
 have RES : Hid (∀ (neg : Bool) (X : Nat), tl neg X g y v = lowF neg (X / Nat.gcd g (X % g)) (y1 * (v / Nat.gcd g (X % g)))) := Lib.hid (fun neg X => by unfold tl; rw [hy1])
 clear hy1
 go_enter Tryz.func71, Tryz.ntmps71
 go_wp2_with fail
 go_quiet ((first | (go_at_call 100; (with_reducible exact quiet_left (S2.out _))) | (go_at_call 100; (with_reducible exact quiet_left (S4.out _)))))
 have K := Lib.hid ((PK.init w an ad bn bd).drewN nq)
 generalize (((w.alloc (.cells #[.int .i64 an, .int .i64 ad] 36)).alloc (.cells #[.int .i64 bn, .int .i64 bd] 36)).alloc (.cells #[.int .i64 0, .int .i64 0] 36)).drewN nq = W0 at *
 go_wp2_with fail
 refine (G1.out _).mono ?_
 rintro e w1 ⟨rfl, n1, rfl⟩
 replace K := Lib.hid (K.out.drewN n1)
 generalize W0.drewN n1 = W1 at *
 have a0 := blk_cell K.out.a 0 _ rfl
 have b0 := blk_cell K.out.b 0 _ rfl
 have la := blk_lt K.out.a
 have lb := blk_lt K.out.b
 go_wp2_with fail
 go_quiet ((first | (go_at_call 102; (with_reducible exact quiet_left (M1.out _))) | (go_at_call 100; (with_reducible exact quiet_left (S1.out _)))))
 clear a0 b0 la lb
 replace K := Lib.hid (K.out.drewN nq)
 generalize W1.drewN nq = W2 at *
 have a0 := blk_cell K.out.a 0 _ rfl
 have b0 := blk_cell K.out.b 0 _ rfl
 have la := blk_lt K.out.a
 have lb := blk_lt K.out.b
 go_wp2_with fail
 go_quiet ((first | (go_at_call 102; (with_reducible exact quiet_left (M2.out _))) | (go_at_call 100; (with_reducible exact quiet_left (S3.out _)))))
 clear a0 b0 la lb
 replace K := Lib.hid (K.out.drewN nq)
 generalize W2.drewN nq = W3 at *
 have a0 := blk_cell K.out.a 0 _ rfl
 have b0 := blk_cell K.out.b 0 _ rfl
 have la := blk_lt K.out.a
 have lb := blk_lt K.out.b
 clear S1 S2 S3 S4 G1 M1 M2
 by_cases c : decide (an < 0) = decide (bn < 0)
 ·have kc : (decide (an < 0) == decide (bn < 0)) = true := by rw [c]; exact beq_self_eq_true _
  have FX : res = tl (decide (an < 0)) (P + Q) g y v := by rw [← F.out]; unfold sumP; rw [if_pos c]
  have p1 := P1.out
  have p2 := P2.out
  have p3 := P3.out
  have p4 := P4.out
  have r1 := Q1.out
  have r2 := Q2.out
  obtain ⟨X, hX⟩ : ∃ X, P + Q = X := ⟨_, rfl⟩
  rw [hX] at FX
  obtain ⟨lo, hlo0⟩ : ∃ z, (al + bl + 0) % 18446744073709551616 = z := ⟨_, rfl⟩
  obtain ⟨k, hk0⟩ : ∃ z, (al + bl + 0) / 18446744073709551616 = z := ⟨_, rfl⟩
  obtain ⟨hi, hhi0⟩ : ∃ z, (ah + bh + k) % 18446744073709551616 = z := ⟨_, rfl⟩
  obtain ⟨k2, hk2⟩ : ∃ z, (ah + bh + k) / 18446744073709551616 = z := ⟨_, rfl⟩
  have HX : Hid (hi * 18446744073709551616 + lo = X) := Lib.hid (by omega)
  have hlo : lo < 18446744073709551616 := by omega
  have hhi : hi < 18446744073709551616 := by omega
  have E1 : ∀ W : World, (callFunc 103 #[.int .u64 al, .int .u64 bl, .int .u64 0]).run Tryz.prog W = .ok (.value (.tuple #[.int .u64 lo, .int .u64 k])) W := fun W => by
   have := add64_run al bl 0 (by omega) W
   rw [hlo0, hk0] at this
   exact this
  have E2 : ∀ W : World, (callFunc 103 #[.int .u64 ah, .int .u64 bh, .int .u64 k]).run Tryz.prog W = .ok (.value (.tuple #[.int .u64 hi, .int .u64 k2])) W := fun W => by
   have := add64_run ah bh k (by omega) W
   rw [hhi0, hk2] at this
   exact this
  clear hlo0 hk0 hhi0 hk2 hX p1 p2 p3 p4 r1 r2
  clear F WC P1 P2 P3 P4 Q1 Q2 c
  have RM := Lib.hid (fun W => rem64_calls hi lo g W hg0 (by omega) hlo hhi)
  rw [HX.out] at RM
  have xl : X % g < g := Nat.mod_lt _ hg0
  have G2 := Lib.hid (fun W => gcd_calls g (X % g) W (by omega) (by omega))
  have h0 : 0 < Nat.gcd g (X % g) := Nat.gcd_pos_of_pos_left _ hg0
  have h1 : Nat.gcd g (X % g) ≤ g := Nat.gcd_le_left _ hg0
  rw [RES.out] at FX
  generalize Nat.gcd g (X % g) = h at *
  generalize X % g = XR at *
  clear RES
  go_wp2_with fail
  refine (RM.out _).mono ?_
  rintro e w4 ⟨rfl, m, rfl⟩
  replace K := Lib.hid (K.out.drewN m)
  generalize W3.drewN m = W4 at *
  go_wp2_with fail
  refine (G2.out _).mono ?_
  rintro e w5 ⟨rfl, m, rfl⟩
  replace K := Lib.hid (K.out.drewN m)
  generalize W4.drewN m = W5 at *
  clear RM G2 xl
  by_cases big : h ≤ hi
  ·have FZ := Lib.hid (show res = (0, 0, 16) by
    rw [FX]; exact lowF_great (.inl (div_large h0 HX.out big)))
   clear FX HX
   have z0 := blk_cell K.out.z 0 _ rfl
   have z1 := blk_cell K.out.z 1 _ rfl
   have f0 := blk_frozen K.out.z 0
   have f1 := blk_frozen K.out.z 1
   go_wp2_with fail
   have e1 := blk_cell (blk_set (blk_set K.out.z 0 (.int .i64 0)) 1 (.int .i64 0)) 0 _ rfl
   have e2 := blk_cell (blk_set (blk_set K.out.z 0 (.int .i64 0)) 1 (.int .i64 0)) 1 _ rfl
   refine bodyPost_ret (v := .tuple #[Fv 0 0, .int .i64 16]) (by simp [results, Tryz.results71, go_sem, e1, e2]) rfl ⟨by rw [FZ.out], Bset1 (Bset1 K.out.n (by omega) _ _) (by omega) _ _⟩
  have DV := Lib.hid (fun W => div64_calls hi lo h W (by omega) (by omega) hlo)
  rw [HX.out] at DV
  have nb := div_small h0 HX.out (show hi < h by omega) hlo
  have t5 := tdivN v h
  have l5 : v / h ≤ 1000000000000000000 := Nat.le_trans (Nat.div_le_self _ _) hv
  generalize X / h = NU at *
  generalize X % h = XR2 at *
  generalize v / h = v2 at *
  have w5 : IntKind.u64.wrap (v2 : Int) = (v2 : Int) := wrapN _ (by omega)
  have hn : ¬ h = 0 := by omega
  have M3 := Lib.hid (fun W => mul64_calls y1 v2 W (by omega) (by omega))
  generalize y1 * v2 = D at *
  have dl : D % 18446744073709551616 < 18446744073709551616 := Nat.mod_lt _ (by omega)
  have BC := Lib.hid (fun W => build_calls (decide (an < 0)) NU (D % 18446744073709551616) W nb dl)
  have BIG : Hid (¬ D / 18446744073709551616 = 0 → res = (0, 0, 16)) := Lib.hid (fun hh => by rw [FX]; exact lowF_great (by omega))
  have SML : Hid (D / 18446744073709551616 = 0 → res = lowF (decide (an < 0)) NU (D % 18446744073709551616)) := Lib.hid (fun e1 => by rw [FX]; congr 1; omega)
  clear FX
  generalize D % 18446744073709551616 = d0 at *
  generalize D / 18446744073709551616 = d1 at *
  have bg : ¬ h ≤ hi := big
  go_wp2_with fail
  refine (DV.out _).mono ?_
  rintro e w6 ⟨rfl, m, rfl⟩
  replace K := Lib.hid (K.out.drewN m)
  generalize W5.drewN m = W6 at *
  clear DV
  go_wp2_with fail
  go_quiet ((go_at_call 102; (with_reducible exact quiet_left (M3.out _))))
  replace K := Lib.hid (K.out.drewN nq)
  generalize W6.drewN nq = W7 at *
  clear t3 t4 t5 w5 wy wv
  by_cases c2 : d1 = 0
  ·have c2' : ((d1 : Int) != 0) = false := by rw [c2]; rfl
   have F2 := Lib.hid (SML.out c2)
   clear SML BIG c2
   generalize lowF (decide (an < 0)) NU d0 = r at *
   obtain ⟨r1, r2, r3⟩ := r
   have z0 := blk_cell K.out.z 0 _ rfl
   have z1 := blk_cell K.out.z 1 _ rfl
   have f0 := blk_frozen K.out.z 0
   have f1 := blk_frozen K.out.z 1
   go_wp2_with fail
   refine (BC.out _).mono ?_
   rintro e w8 ⟨rfl, hb⟩
   replace K := Lib.hid (K.out.next hb)
   clear z0 z1 f0 f1
   clear hb
   have z0 := blk_cell K.out.z 0 _ rfl
   have z1 := blk_cell K.out.z 1 _ rfl
   have f0 := blk_frozen K.out.z 0
   have f1 := blk_frozen K.out.z 1
   go_wp2_with fail
   have e1 := blk_cell (blk_set (blk_set K.out.z 0 (.int .i64 r1)) 1 (.int .i64 r2)) 0 _ rfl
   have e2 := blk_cell (blk_set (blk_set K.out.z 0 (.int .i64 r1)) 1 (.int .i64 r2)) 1 _ rfl
   refine bodyPost_ret (v := .tuple #[Fv r1 r2, .int .i64 r3]) (by simp [results, Tryz.results71, go_sem, e1, e2]) rfl ⟨by rw [F2.out], Bset1 (Bset1 K.out.n (by omega) _ _) (by omega) _ _⟩
  ·have c2' : ((d1 : Int) != 0) = true := by rw [bne_iff_ne]; omega
   have F2 := Lib.hid (BIG.out c2)
   clear SML BIG c2
   have z0 := blk_cell K.out.z 0 _ rfl
   have z1 := blk_cell K.out.z 1 _ rfl
   have f0 := blk_frozen K.out.z 0
   have f1 := blk_frozen K.out.z 1
   go_wp2_with fail
   have e1 := blk_cell (blk_set (blk_set K.out.z 0 (.int .i64 0)) 1 (.int .i64 0)) 0 _ rfl
   have e2 := blk_cell (blk_set (blk_set K.out.z 0 (.int .i64 0)) 1 (.int .i64 0)) 1 _ rfl
   refine bodyPost_ret (v := .tuple #[Fv 0 0, .int .i64 16]) (by simp [results, Tryz.results71, go_sem, e1, e2]) rfl ⟨by rw [F2.out], Bset1 (Bset1 K.out.n (by omega) _ _) (by omega) _ _⟩
 ·have kc : (decide (an < 0) == decide (bn < 0)) = false := by rw [beq_eq_false_iff_ne]; exact c
  obtain ⟨cc, hcc⟩ : ∃ cc, cmpI (P : Int) (Q : Int) = cc := ⟨_, rfl⟩
  rw [hcc] at WC
  by_cases le : Q ≤ P
  ·have kl : decide ((0 : Int) ≤ cc) = true := decide_eq_true (by rw [← hcc]; unfold cmpI; split <;> (try split) <;> omega)
   have FX : res = tl (decide (an < 0)) (P - Q) g y v := by rw [← F.out]; unfold sumP; rw [if_neg c, if_pos le]
   have p1 := P1.out
   have p2 := P2.out
   have p3 := P3.out
   have p4 := P4.out
   have r1 := Q1.out
   have r2 := Q2.out
   obtain ⟨X, hX⟩ : ∃ X, P - Q = X := ⟨_, rfl⟩
   rw [hX] at FX
   obtain ⟨lo, hlo0⟩ : ∃ z, (al + 18446744073709551616 - bl - 0) % 18446744073709551616 = z := ⟨_, rfl⟩
   obtain ⟨k, hk0⟩ : ∃ z, (if al < bl + 0 then 1 else 0) = z := ⟨_, rfl⟩
   obtain ⟨hi, hhi0⟩ : ∃ z, (ah + 18446744073709551616 - bh - k) % 18446744073709551616 = z := ⟨_, rfl⟩
   obtain ⟨k2, hk2⟩ : ∃ z, (if ah < bh + k then 1 else 0) = z := ⟨_, rfl⟩
   have kk : (k = 1 ∧ al < bl) ∨ (k = 0 ∧ bl ≤ al) := by rw [← hk0]; split <;> omega
   have HX : Hid (hi * 18446744073709551616 + lo = X) := Lib.hid (by omega)
   have hlo : lo < 18446744073709551616 := by omega
   have hhi : hi < 18446744073709551616 := by omega
   have E1 : ∀ W : World, (callFunc 105 #[.int .u64 al, .int .u64 bl, .int .u64 0]).run Tryz.prog W = .ok (.value (.tuple #[.int .u64 lo, .int .u64 k])) W := fun W => by
    have := sub64_run al bl 0 (by omega) W
    rw [hlo0, hk0] at this
    exact this
   have E2 : ∀ W : World, (callFunc 105 #[.int .u64 ah, .int .u64 bh, .int .u64 k]).run Tryz.prog W = .ok (.value (.tuple #[.int .u64 hi, .int .u64 k2])) W := fun W => by
    have := sub64_run ah bh k (by omega) W
    rw [hhi0, hk2] at this
    exact this
   clear hlo0 hk0 hhi0 hk2 hX p1 p2 p3 p4 r1 r2 kk
   clear F P1 P2 P3 P4 Q1 Q2 c le hcc
   go_wp2_with fail
   refine (WC.out _).mono ?_
   rintro e w9 ⟨rfl, rfl⟩
   clear WC
   have RM := Lib.hid (fun W => rem64_calls hi lo g W hg0 (by omega) hlo hhi)
   rw [HX.out] at RM
   have xl : X % g < g := Nat.mod_lt _ hg0
   have G2 := Lib.hid (fun W => gcd_calls g (X % g) W (by omega) (by omega))
   have h0 : 0 < Nat.gcd g (X % g) := Nat.gcd_pos_of_pos_left _ hg0
   have h1 : Nat.gcd g (X % g) ≤ g := Nat.gcd_le_left _ hg0
   rw [RES.out] at FX
   generalize Nat.gcd g (X % g) = h at *
   generalize X % g = XR at *
   clear RES
   go_wp2_with fail
   refine (RM.out _).mono ?_
   rintro e w4 ⟨rfl, m, rfl⟩
   replace K := Lib.hid (K.out.drewN m)
   generalize W3.drewN m = W4 at *
   go_wp2_with fail
   refine (G2.out _).mono ?_
   rintro e w5 ⟨rfl, m, rfl⟩
   replace K := Lib.hid (K.out.drewN m)
   generalize W4.drewN m = W5 at *
   clear RM G2 xl
   by_cases big : h ≤ hi
   ·have FZ := Lib.hid (show res = (0, 0, 16) by
     rw [FX]; exact lowF_great (.inl (div_large h0 HX.out big)))
    clear FX HX
    have z0 := blk_cell K.out.z 0 _ rfl
    have z1 := blk_cell K.out.z 1 _ rfl
    have f0 := blk_frozen K.out.z 0
    have f1 := blk_frozen K.out.z 1
    go_wp2_with fail
    have e1 := blk_cell (blk_set (blk_set K.out.z 0 (.int .i64 0)) 1 (.int .i64 0)) 0 _ rfl
    have e2 := blk_cell (blk_set (blk_set K.out.z 0 (.int .i64 0)) 1 (.int .i64 0)) 1 _ rfl
    refine bodyPost_ret (v := .tuple #[Fv 0 0, .int .i64 16]) (by simp [results, Tryz.results71, go_sem, e1, e2]) rfl ⟨by rw [FZ.out], Bset1 (Bset1 K.out.n (by omega) _ _) (by omega) _ _⟩
   have DV := Lib.hid (fun W => div64_calls hi lo h W (by omega) (by omega) hlo)
   rw [HX.out] at DV
   have nb := div_small h0 HX.out (show hi < h by omega) hlo
   have t5 := tdivN v h
   have l5 : v / h ≤ 1000000000000000000 := Nat.le_trans (Nat.div_le_self _ _) hv
   generalize X / h = NU at *
   generalize X % h = XR2 at *
   generalize v / h = v2 at *
   have w5 : IntKind.u64.wrap (v2 : Int) = (v2 : Int) := wrapN _ (by omega)
   have hn : ¬ h = 0 := by omega
   have M3 := Lib.hid (fun W => mul64_calls y1 v2 W (by omega) (by omega))
   generalize y1 * v2 = D at *
   have dl : D % 18446744073709551616 < 18446744073709551616 := Nat.mod_lt _ (by omega)
   have BC := Lib.hid (fun W => build_calls (decide (an < 0)) NU (D % 18446744073709551616) W nb dl)
   have BIG : Hid (¬ D / 18446744073709551616 = 0 → res = (0, 0, 16)) := Lib.hid (fun hh => by rw [FX]; exact lowF_great (by omega))
   have SML : Hid (D / 18446744073709551616 = 0 → res = lowF (decide (an < 0)) NU (D % 18446744073709551616)) := Lib.hid (fun e1 => by rw [FX]; congr 1; omega)
   clear FX
   generalize D % 18446744073709551616 = d0 at *
   generalize D / 18446744073709551616 = d1 at *
   have bg : ¬ h ≤ hi := big
   go_wp2_with fail
   refine (DV.out _).mono ?_
   rintro e w6 ⟨rfl, m, rfl⟩
   replace K := Lib.hid (K.out.drewN m)
   generalize W5.drewN m = W6 at *
   clear DV
   go_wp2_with fail
   go_quiet ((go_at_call 102; (with_reducible exact quiet_left (M3.out _))))
   replace K := Lib.hid (K.out.drewN nq)
   generalize W6.drewN nq = W7 at *
   clear t3 t4 t5 w5 wy wv
   by_cases c2 : d1 = 0
   ·have c2' : ((d1 : Int) != 0) = false := by rw [c2]; rfl
    have F2 := Lib.hid (SML.out c2)
    clear SML BIG c2
    generalize lowF (decide (an < 0)) NU d0 = r at *
    obtain ⟨r1, r2, r3⟩ := r
    have z0 := blk_cell K.out.z 0 _ rfl
    have z1 := blk_cell K.out.z 1 _ rfl
    have f0 := blk_frozen K.out.z 0
    have f1 := blk_frozen K.out.z 1
    go_wp2_with fail
    refine (BC.out _).mono ?_
    rintro e w8 ⟨rfl, hb⟩
    replace K := Lib.hid (K.out.next hb)
    clear z0 z1 f0 f1
    clear hb
    have z0 := blk_cell K.out.z 0 _ rfl
    have z1 := blk_cell K.out.z 1 _ rfl
    have f0 := blk_frozen K.out.z 0
    have f1 := blk_frozen K.out.z 1
    go_wp2_with fail
    have e1 := blk_cell (blk_set (blk_set K.out.z 0 (.int .i64 r1)) 1 (.int .i64 r2)) 0 _ rfl
    have e2 := blk_cell (blk_set (blk_set K.out.z 0 (.int .i64 r1)) 1 (.int .i64 r2)) 1 _ rfl
    refine bodyPost_ret (v := .tuple #[Fv r1 r2, .int .i64 r3]) (by simp [results, Tryz.results71, go_sem, e1, e2]) rfl ⟨by rw [F2.out], Bset1 (Bset1 K.out.n (by omega) _ _) (by omega) _ _⟩
   ·have c2' : ((d1 : Int) != 0) = true := by rw [bne_iff_ne]; omega
    have F2 := Lib.hid (BIG.out c2)
    clear SML BIG c2
    have z0 := blk_cell K.out.z 0 _ rfl
    have z1 := blk_cell K.out.z 1 _ rfl
    have f0 := blk_frozen K.out.z 0
    have f1 := blk_frozen K.out.z 1
    go_wp2_with fail
    have e1 := blk_cell (blk_set (blk_set K.out.z 0 (.int .i64 0)) 1 (.int .i64 0)) 0 _ rfl
    have e2 := blk_cell (blk_set (blk_set K.out.z 0 (.int .i64 0)) 1 (.int .i64 0)) 1 _ rfl
    refine bodyPost_ret (v := .tuple #[Fv 0 0, .int .i64 16]) (by simp [results, Tryz.results71, go_sem, e1, e2]) rfl ⟨by rw [F2.out], Bset1 (Bset1 K.out.n (by omega) _ _) (by omega) _ _⟩
  ·have kl : decide ((0 : Int) ≤ cc) = false := decide_eq_false (by rw [← hcc]; unfold cmpI; split <;> (try split) <;> omega)
   have FX : res = tl (decide (bn < 0)) (Q - P) g y v := by rw [← F.out]; unfold sumP; rw [if_neg c, if_neg le]
   have p1 := P1.out
   have p2 := P2.out
   have p3 := P3.out
   have p4 := P4.out
   have r1 := Q1.out
   have r2 := Q2.out
   obtain ⟨X, hX⟩ : ∃ X, Q - P = X := ⟨_, rfl⟩
   rw [hX] at FX
   obtain ⟨lo, hlo0⟩ : ∃ z, (bl + 18446744073709551616 - al - 0) % 18446744073709551616 = z := ⟨_, rfl⟩
   obtain ⟨k, hk0⟩ : ∃ z, (if bl < al + 0 then 1 else 0) = z := ⟨_, rfl⟩
   obtain ⟨hi, hhi0⟩ : ∃ z, (bh + 18446744073709551616 - ah - k) % 18446744073709551616 = z := ⟨_, rfl⟩
   obtain ⟨k2, hk2⟩ : ∃ z, (if bh < ah + k then 1 else 0) = z := ⟨_, rfl⟩
   have kk : (k = 1 ∧ bl < al) ∨ (k = 0 ∧ al ≤ bl) := by rw [← hk0]; split <;> omega
   have HX : Hid (hi * 18446744073709551616 + lo = X) := Lib.hid (by omega)
   have hlo : lo < 18446744073709551616 := by omega
   have hhi : hi < 18446744073709551616 := by omega
   have E1 : ∀ W : World, (callFunc 105 #[.int .u64 bl, .int .u64 al, .int .u64 0]).run Tryz.prog W = .ok (.value (.tuple #[.int .u64 lo, .int .u64 k])) W := fun W => by
    have := sub64_run bl al 0 (by omega) W
    rw [hlo0, hk0] at this
    exact this
   have E2 : ∀ W : World, (callFunc 105 #[.int .u64 bh, .int .u64 ah, .int .u64 k]).run Tryz.prog W = .ok (.value (.tuple #[.int .u64 hi, .int .u64 k2])) W := fun W => by
    have := sub64_run bh ah k (by omega) W
    rw [hhi0, hk2] at this
    exact this
   clear hlo0 hk0 hhi0 hk2 hX p1 p2 p3 p4 r1 r2 kk
   clear F P1 P2 P3 P4 Q1 Q2 c le hcc
   go_wp2_with fail
   refine (WC.out _).mono ?_
   rintro e w9 ⟨rfl, rfl⟩
   clear WC
   have RM := Lib.hid (fun W => rem64_calls hi lo g W hg0 (by omega) hlo hhi)
   rw [HX.out] at RM
   have xl : X % g < g := Nat.mod_lt _ hg0
   have G2 := Lib.hid (fun W => gcd_calls g (X % g) W (by omega) (by omega))
   have h0 : 0 < Nat.gcd g (X % g) := Nat.gcd_pos_of_pos_left _ hg0
   have h1 : Nat.gcd g (X % g) ≤ g := Nat.gcd_le_left _ hg0
   rw [RES.out] at FX
   generalize Nat.gcd g (X % g) = h at *
   generalize X % g = XR at *
   clear RES
   go_wp2_with fail
   refine (RM.out _).mono ?_
   rintro e w4 ⟨rfl, m, rfl⟩
   replace K := Lib.hid (K.out.drewN m)
   generalize W3.drewN m = W4 at *
   go_wp2_with fail
   refine (G2.out _).mono ?_
   rintro e w5 ⟨rfl, m, rfl⟩
   replace K := Lib.hid (K.out.drewN m)
   generalize W4.drewN m = W5 at *
   clear RM G2 xl
   by_cases big : h ≤ hi
   ·have FZ := Lib.hid (show res = (0, 0, 16) by
     rw [FX]; exact lowF_great (.inl (div_large h0 HX.out big)))
    clear FX HX
    have z0 := blk_cell K.out.z 0 _ rfl
    have z1 := blk_cell K.out.z 1 _ rfl
    have f0 := blk_frozen K.out.z 0
    have f1 := blk_frozen K.out.z 1
    go_wp2_with fail
    have e1 := blk_cell (blk_set (blk_set K.out.z 0 (.int .i64 0)) 1 (.int .i64 0)) 0 _ rfl
    have e2 := blk_cell (blk_set (blk_set K.out.z 0 (.int .i64 0)) 1 (.int .i64 0)) 1 _ rfl
    refine bodyPost_ret (v := .tuple #[Fv 0 0, .int .i64 16]) (by simp [results, Tryz.results71, go_sem, e1, e2]) rfl ⟨by rw [FZ.out], Bset1 (Bset1 K.out.n (by omega) _ _) (by omega) _ _⟩
   have DV := Lib.hid (fun W => div64_calls hi lo h W (by omega) (by omega) hlo)
   rw [HX.out] at DV
   have nb := div_small h0 HX.out (show hi < h by omega) hlo
   have t5 := tdivN v h
   have l5 : v / h ≤ 1000000000000000000 := Nat.le_trans (Nat.div_le_self _ _) hv
   generalize X / h = NU at *
   generalize X % h = XR2 at *
   generalize v / h = v2 at *
   have w5 : IntKind.u64.wrap (v2 : Int) = (v2 : Int) := wrapN _ (by omega)
   have hn : ¬ h = 0 := by omega
   have M3 := Lib.hid (fun W => mul64_calls y1 v2 W (by omega) (by omega))
   generalize y1 * v2 = D at *
   have dl : D % 18446744073709551616 < 18446744073709551616 := Nat.mod_lt _ (by omega)
   have BC := Lib.hid (fun W => build_calls (decide (bn < 0)) NU (D % 18446744073709551616) W nb dl)
   have BIG : Hid (¬ D / 18446744073709551616 = 0 → res = (0, 0, 16)) := Lib.hid (fun hh => by rw [FX]; exact lowF_great (by omega))
   have SML : Hid (D / 18446744073709551616 = 0 → res = lowF (decide (bn < 0)) NU (D % 18446744073709551616)) := Lib.hid (fun e1 => by rw [FX]; congr 1; omega)
   clear FX
   generalize D % 18446744073709551616 = d0 at *
   generalize D / 18446744073709551616 = d1 at *
   have bg : ¬ h ≤ hi := big
   go_wp2_with fail
   refine (DV.out _).mono ?_
   rintro e w6 ⟨rfl, m, rfl⟩
   replace K := Lib.hid (K.out.drewN m)
   generalize W5.drewN m = W6 at *
   clear DV
   go_wp2_with fail
   go_quiet ((go_at_call 102; (with_reducible exact quiet_left (M3.out _))))
   replace K := Lib.hid (K.out.drewN nq)
   generalize W6.drewN nq = W7 at *
   clear t3 t4 t5 w5 wy wv
   by_cases c2 : d1 = 0
   ·have c2' : ((d1 : Int) != 0) = false := by rw [c2]; rfl
    have F2 := Lib.hid (SML.out c2)
    clear SML BIG c2
    generalize lowF (decide (bn < 0)) NU d0 = r at *
    obtain ⟨r1, r2, r3⟩ := r
    have z0 := blk_cell K.out.z 0 _ rfl
    have z1 := blk_cell K.out.z 1 _ rfl
    have f0 := blk_frozen K.out.z 0
    have f1 := blk_frozen K.out.z 1
    go_wp2_with fail
    refine (BC.out _).mono ?_
    rintro e w8 ⟨rfl, hb⟩
    replace K := Lib.hid (K.out.next hb)
    clear z0 z1 f0 f1
    clear hb
    have z0 := blk_cell K.out.z 0 _ rfl
    have z1 := blk_cell K.out.z 1 _ rfl
    have f0 := blk_frozen K.out.z 0
    have f1 := blk_frozen K.out.z 1
    go_wp2_with fail
    have e1 := blk_cell (blk_set (blk_set K.out.z 0 (.int .i64 r1)) 1 (.int .i64 r2)) 0 _ rfl
    have e2 := blk_cell (blk_set (blk_set K.out.z 0 (.int .i64 r1)) 1 (.int .i64 r2)) 1 _ rfl
    refine bodyPost_ret (v := .tuple #[Fv r1 r2, .int .i64 r3]) (by simp [results, Tryz.results71, go_sem, e1, e2]) rfl ⟨by rw [F2.out], Bset1 (Bset1 K.out.n (by omega) _ _) (by omega) _ _⟩
   ·have c2' : ((d1 : Int) != 0) = true := by rw [bne_iff_ne]; omega
    have F2 := Lib.hid (BIG.out c2)
    clear SML BIG c2
    have z0 := blk_cell K.out.z 0 _ rfl
    have z1 := blk_cell K.out.z 1 _ rfl
    have f0 := blk_frozen K.out.z 0
    have f1 := blk_frozen K.out.z 1
    go_wp2_with fail
    have e1 := blk_cell (blk_set (blk_set K.out.z 0 (.int .i64 0)) 1 (.int .i64 0)) 0 _ rfl
    have e2 := blk_cell (blk_set (blk_set K.out.z 0 (.int .i64 0)) 1 (.int .i64 0)) 1 _ rfl
    refine bodyPost_ret (v := .tuple #[Fv 0 0, .int .i64 16]) (by simp [results, Tryz.results71, go_sem, e1, e2]) rfl ⟨by rw [F2.out], Bset1 (Bset1 K.out.n (by omega) _ _) (by omega) _ _⟩
end Go.Proofs.YtfangplfbbgphaaGreatDoor
namespace Go.Proofs.YtfangplfbbgphaaGreatDoor
open Go.ChangeShapes Go.WideShapes Go.ChangeAt Go.RowKit
set_option linter.unusedVariables false
set_option maxRecDepth 100000
attribute [local go_sem ↓] Go.wp_at_zero Go.wp_at_succ
theorem Rd.num {w : World} {A : Option Addr} {L : List Int} (h : Rd w 1 A L.length (lv L)) {i : Nat} (hi : i < L.length) : ∃ b off, A = some ⟨b, off, none⟩ ∧ b < w.heap.size ∧ w.cell? ⟨b, off + i, none⟩ = some (.int .i64 L[i]) := by
 obtain ⟨b, off, e, hl, hc⟩ := h.2 (by omega)
 exact ⟨b, off, e, hl, hc i _ (lv_get (List.getElem?_eq_getElem hi))⟩
end Go.Proofs.YtfangplfbbgphaaGreatDoor
namespace Go.Proofs.YtfangplfbbgphaaGreatDoor
open Go.ChangeShapes Go.WideShapes Go.ChangeAt Go.RowKit
set_option linter.unusedVariables false
set_option maxRecDepth 100000
attribute [local go_sem ↓] Go.wp_at_zero Go.wp_at_succ
set_option maxRecDepth 100000 in
set_option maxHeartbeats 8000000 in
theorem sub_calls (an ad bn bd : Int) (w : World) :
  Calls Tryz.prog 68 #[Fv an ad, Fv bn bd] w fun e w' => e = .returned (Rv (subR an ad bn bd)) ∧ Below w.heap.size w w' := by
 have C1 := Lib.hid (fun W => both_calls an ad bn bd W)
 by_cases ck : errB an ad bn bd = 0
 rotate_left
 ·have F : Hid (subR an ad bn bd = (0, 0, errB an ad bn bd)) := Lib.hid (by unfold subR; rw [if_neg ck])
  have ck' : (errB an ad bn bd != 0) = true := by rw [bne_iff_ne]; exact ck
  generalize subR an ad bn bd = res at *
  generalize errB an ad bn bd = er at *
  clear ck
  go_enter Tryz.func68, Tryz.ntmps68
  go_wp2_with fail
  refine (C1.out _).mono ?_
  rintro e w1 ⟨rfl, hb⟩
  have K := Lib.hid ((PK.init w an ad bn bd).next hb)
  clear hb
  have z0 := blk_cell K.out.z 0 _ rfl
  have z1 := blk_cell K.out.z 1 _ rfl
  have f0 := blk_frozen K.out.z 0
  have f1 := blk_frozen K.out.z 1
  go_wp2_with fail
  have e1 := blk_cell (blk_set (blk_set K.out.z 0 (.int .i64 0)) 1 (.int .i64 0)) 0 _ rfl
  have e2 := blk_cell (blk_set (blk_set K.out.z 0 (.int .i64 0)) 1 (.int .i64 0)) 1 _ rfl
  refine bodyPost_ret (v := .tuple #[Fv 0 0, .int .i64 er]) (by simp [results, Tryz.results68, go_sem, e1, e2]) rfl ⟨by rw [F.out], Bset1 (Bset1 K.out.n (by omega) _ _) (by omega) _ _⟩
 ·have F : Hid (subR an ad bn bd = addF an ad (-bn) bd) := Lib.hid (by unfold subR; rw [if_pos ck])
  obtain ⟨va, vb⟩ := errB_ok ck
  rw [ck] at C1
  have PC := Lib.hid (fun W => sum_calls an ad (-bn) bd W va vb.neg)
  generalize subR an ad bn bd = res at *
  generalize addF an ad (-bn) bd = r at *
  obtain ⟨r1, r2, r3⟩ := r
  have n1 := vb.n1
  have n2 := vb.n2
  clear ck va vb
  go_enter Tryz.func68, Tryz.ntmps68
  go_wp2_with fail
  refine (C1.out _).mono ?_
  rintro e w1 ⟨rfl, hb⟩
  have K := Lib.hid ((PK.init w an ad bn bd).next hb)
  clear hb
  have a0 := blk_cell K.out.a 0 _ rfl
  have a1 := blk_cell K.out.a 1 _ rfl
  have b0 := blk_cell K.out.b 0 _ rfl
  have b1 := blk_cell K.out.b 1 _ rfl
  have kl := blk_lt K.out.a
  have kl2 := blk_lt K.out.b
  go_wp2_with fail
  refine (PC.out _).mono ?_
  rintro e w2 ⟨rfl, hb⟩
  replace K : Hid (PK w w2 an ad bn bd) := Lib.hid (K.out.next (by first | exact hb | exact Bgo (Bal (Below.refl _ _) _) hb))
  clear kl kl2 hb
  clear a0 a1 b0 b1
  have z0 := blk_cell K.out.z 0 _ rfl
  have z1 := blk_cell K.out.z 1 _ rfl
  have f0 := blk_frozen K.out.z 0
  have f1 := blk_frozen K.out.z 1
  go_wp2_with fail
  have e1 := blk_cell (blk_set (blk_set K.out.z 0 (.int .i64 r1)) 1 (.int .i64 r2)) 0 _ rfl
  have e2 := blk_cell (blk_set (blk_set K.out.z 0 (.int .i64 r1)) 1 (.int .i64 r2)) 1 _ rfl
  refine bodyPost_ret (v := .tuple #[Fv r1 r2, .int .i64 r3]) (by simp [results, Tryz.results68, go_sem, e1, e2]) rfl ⟨by rw [F.out], Bset1 (Bset1 K.out.n (by omega) _ _) (by omega) _ _⟩
end Go.Proofs.YtfangplfbbgphaaGreatDoor
namespace Go.Proofs.YtfangplfbbgphaaGreatDoor
open Go.ChangeShapes Go.WideShapes Go.ChangeAt Go.RowKit
set_option linter.unusedVariables false
set_option maxRecDepth 100000
set_option maxRecDepth 100000
def pQ (n d : Int) : Int × Int × Int := mulR n d n d
def pL (n d : Int) : Int × Int × Int := subR 1 1 (pQ n d).1 (pQ n d).2.1
def pH (n d : Int) : Int × Int × Int := addR 1 1 (pQ n d).1 (pQ n d).2.1
def pC (n d : Int) : Int × Int × Int := divR (pL n d).1 (pL n d).2.1 (pH n d).1 (pH n d).2.1
def pT (n d : Int) : Int × Int × Int := mulR n d 2 1
def pS (n d : Int) : Int × Int × Int := divR (pT n d).1 (pT n d).2.1 (pH n d).1 (pH n d).2.1
def vfB (n d m : Int) : Bool := decide (1 ≤ d) && (decide (d ≤ m) && (decide (-m ≤ n) && decide (n ≤ m)))
def pairOK (n d : Int) : Bool :=
 ((pQ n d).2.2 == 0) && ((pL n d).2.2 == 0) && ((pH n d).2.2 == 0) && ((pT n d).2.2 == 0) && (pC n d == ((arC n d).1, (arC n d).2.1, 0)) && (pS n d == ((arK n d).1, (arK n d).2.1, 0)) &&
 ((arC n d).2.2 == 0) && ((arK n d).2.2 == 0) && okF (arC n d).1 (arC n d).2.1 && okF (arK n d).1 (arK n d).2.1 && vfB (arC n d).1 (arC n d).2.1 800 && vfB (arK n d).1 (arK n d).2.1 800
theorem pair_all : ((List.range 41).all fun i => (List.range 20).all fun j => !(prmB ((i : Int) - 20) ((j : Int) + 1)) || pairOK ((i : Int) - 20) ((j : Int) + 1)) = true := by kernel_rfl
theorem pair_plain {n d : Int} (h : prmB n d = true) : pairOK n d = true := by
 obtain ⟨_, h1, h2, h3, h4⟩ := prm_facts h
 have a := List.all_eq_true.1 pair_all (n + 20).toNat (by rw [List.mem_range]; omega)
 have b := List.all_eq_true.1 a (d - 1).toNat (by rw [List.mem_range]; omega)
 rw [show (((n + 20).toNat : Nat) : Int) - 20 = n by omega, show (((d - 1).toNat : Nat) : Int) + 1 = d by omega, h] at b
 simpa using b
theorem pair_facts {n d : Int} (h : prmB n d = true) : (pQ n d).2.2 = 0 ∧ (pL n d).2.2 = 0 ∧ (pH n d).2.2 = 0 ∧ (pT n d).2.2 = 0 ∧ pC n d = ((arC n d).1, (arC n d).2.1, 0) ∧ pS n d = ((arK n d).1, (arK n d).2.1, 0) ∧
  (arC n d).2.2 = 0 ∧ (arK n d).2.2 = 0 ∧ okF (arC n d).1 (arC n d).2.1 = true ∧ okF (arK n d).1 (arK n d).2.1 = true ∧ vfB (arC n d).1 (arC n d).2.1 800 = true ∧ vfB (arK n d).1 (arK n d).2.1 800 = true := by
 have a := pair_plain h
 unfold pairOK at a
 simp only [Bool.and_eq_true, beq_iff_eq] at a
 obtain ⟨⟨⟨⟨⟨⟨⟨⟨⟨⟨⟨a1, a2⟩, a3⟩, a4⟩, a5⟩, a6⟩, a7⟩, a8⟩, a9⟩, a10⟩, a11⟩, a12⟩ := a
 exact ⟨a1, a2, a3, a4, a5, a6, a7, a8, a9, a10, a11, a12⟩
end Go.Proofs.YtfangplfbbgphaaGreatDoor
namespace Go.Proofs.YtfangplfbbgphaaGreatDoor
open Go.ChangeShapes Go.WideShapes Go.ChangeAt Go.RowKit
set_option linter.unusedVariables false
set_option maxRecDepth 100000
def LE (n d : Int) (m : Nat) : Prop := n.natAbs ≤ m ∧ d.natAbs ≤ m
theorem redF_small {N : Int} {D m : Nat} (hN : N.natAbs ≤ m) (hD : D ≤ m) (h0 : 0 < D) (hm : m ≤ 1000000000000000000) : ∃ n d : Int, redF N D = (n, d, 0) ∧ VF n d ∧ LE n d m := by
 have a := Nat.div_le_self N.natAbs (Nat.gcd N.natAbs D)
 have b := Nat.div_le_self D (Nat.gcd N.natAbs D)
 have key : ∃ n d : Int, redF N D = (n, d, 0) ∧ LE n d m := by
  unfold redF lowF
  generalize N.natAbs / Nat.gcd N.natAbs D = x at *
  generalize D / Nat.gcd N.natAbs D = y at *
  rw [if_neg (by omega)]
  refine ⟨_, _, rfl, ?_, ?_⟩
  ·split <;> omega
  ·omega
 obtain ⟨n, d, h1, h2⟩ := key
 exact ⟨n, d, h1, (redF_val h0 h1 rfl).1, h2⟩
theorem mul_small {an ad bn bd : Int} {p q m : Nat} (va : VF an ad) (vb : VF bn bd) (ha : LE an ad p) (hb : LE bn bd q) (e : p * q = m) (hm : m ≤ 1000000000000000000) : ∃ n d : Int, mulR an ad bn bd = (n, d, 0) ∧ VF n d ∧ LE n d m := by
 unfold mulR
 rw [if_pos (va.both vb), mulF_red va vb]
 have h1 := Nat.mul_le_mul ha.1 hb.1
 have h2 := Nat.mul_le_mul ha.2 hb.2
 have h3 := va.d1
 have h4 := vb.d1
 exact redF_small (by rw [Int.natAbs_mul]; omega) (by omega) (Nat.mul_pos (by omega) (by omega)) hm
theorem mulR_comm {an ad bn bd : Int} (va : VF an ad) (vb : VF bn bd) : mulR bn bd an ad = mulR an ad bn bd := by
 unfold mulR
 rw [if_pos (va.both vb), if_pos (vb.both va), mulF_red va vb, mulF_red vb va, Int.mul_comm, Nat.mul_comm]
theorem vf_ok {n d : Int} (h : okF n d = true) : VF n d := errF_ok (by unfold errF; rw [if_pos h])
theorem vf_LE {n d : Int} (h : vfB n d 800 = true) : LE n d 800 := by
 unfold vfB at h
 simp only [Bool.and_eq_true, decide_eq_true_eq] at h
 unfold LE; omega
theorem vf_axis {a : Int} (h1 : 1 ≤ a) (h2 : a ≤ 1000) : VF a 1 ∧ LE a 1 1000 := ⟨⟨by omega, by omega, by omega, by omega, by simp⟩, by unfold LE; omega⟩
def wdR (A n d : Int) : Int × Int × Int := mulR A 1 (arC n d).1 (arC n d).2.1
def plX (A n d m k : Int) : Int × Int × Int := mulR (wdR A n d).1 (wdR A n d).2.1 (arC m k).1 (arC m k).2.1
def plY (A n d m k : Int) : Int × Int × Int := mulR (wdR A n d).1 (wdR A n d).2.1 (arK m k).1 (arK m k).2.1
def plZ (B n d : Int) : Int × Int × Int := mulR B 1 (arK n d).1 (arK n d).2.1
structure Placed (A B n d m k : Int) : Prop where
 w : (wdR A n d).2.2 = 0
 w' : mulR (arC n d).1 (arC n d).2.1 A 1 = wdR A n d
 x : (plX A n d m k).2.2 = 0
 y : (plY A n d m k).2.2 = 0
 z : (plZ B n d).2.2 = 0
 z' : mulR (arK n d).1 (arK n d).2.1 B 1 = plZ B n d
 vx : VF (plX A n d m k).1 (plX A n d m k).2.1
 vy : VF (plY A n d m k).1 (plY A n d m k).2.1
 vz : VF (plZ B n d).1 (plZ B n d).2.1
theorem placed {A B n d m k : Int} (hg : okG A B) (hs : prmB n d = true) (ht : prmB m k = true) : Placed A B n d m k := by
 obtain ⟨_, _, _, _, _, _, _, _, s1, s2, s3, s4⟩ := pair_facts hs
 obtain ⟨_, _, _, _, _, _, _, _, t1, t2, t3, t4⟩ := pair_facts ht
 obtain ⟨g1, g2, g3, g4⟩ := hg
 obtain ⟨va, la⟩ := vf_axis g1 g2
 obtain ⟨vb, lb⟩ := vf_axis g3 g4
 obtain ⟨wn, wd, hw, vw, lw⟩ := mul_small va (vf_ok s1) la (vf_LE s3) (m := 800000) (by decide) (by decide)
 obtain ⟨xn, xd, hx, vx, _⟩ := mul_small vw (vf_ok t1) lw (vf_LE t3) (m := 640000000) (by decide) (by decide)
 obtain ⟨yn, yd, hy, vy, _⟩ := mul_small vw (vf_ok t2) lw (vf_LE t4) (m := 640000000) (by decide) (by decide)
 obtain ⟨zn, zd, hz, vz, _⟩ := mul_small vb (vf_ok s2) lb (vf_LE s4) (m := 800000) (by decide) (by decide)
 have ew : wdR A n d = (wn, wd, 0) := hw
 have ex : plX A n d m k = (xn, xd, 0) := by unfold plX; rw [ew]; exact hx
 have ey : plY A n d m k = (yn, yd, 0) := by unfold plY; rw [ew]; exact hy
 have ez : plZ B n d = (zn, zd, 0) := hz
 exact ⟨by rw [ew], mulR_comm va (vf_ok s1), by rw [ex], by rw [ey], by rw [ez], mulR_comm vb (vf_ok s2), by rw [ex]; exact vx, by rw [ey]; exact vy, by rw [ez]; exact vz⟩
end Go.Proofs.YtfangplfbbgphaaGreatDoor
