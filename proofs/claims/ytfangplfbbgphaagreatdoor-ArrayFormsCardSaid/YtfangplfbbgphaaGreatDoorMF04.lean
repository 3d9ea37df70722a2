/- Several texts in one. -/
import Derived.Deep.DeepCutAuto
import Derived.Deep.CutBlock
import Derived.Lib.Strings
import Derived.Lib.Slices
import Derived.Lib.Small
import Derived.Lib.Walk
import Derived.Lib.BitFns
import Derived.Test.YtfangplfbbgphaaGreatDoorMF01
import Derived.Test.YtfangplfbbgphaaGreatDoorMF02
import Derived.Test.YtfangplfbbgphaaGreatDoorMF03
namespace Go.Proofs.YtfangplfbbgphaaGreatDoor
open Go.ChangeShapes Go.WideShapes Go.ChangeAt Go.RowKit
set_option linter.unusedVariables false
set_option maxRecDepth 100000
attribute [local go_sem ↓] Go.wp_at_zero Go.wp_at_succ
theorem bitLen_pow : ∀ (n x : Nat), x < 2 ^ n → 0 < x → n ≤ 64 → 2 ^ (Lib.bitLen x - 1) ≤ x ∧ x < 2 ^ Lib.bitLen x := by
 intro n
 induction n with
 | zero => intro x h h0 _; simp at h; omega
 | succ n ih =>
  intro x h h0 hn
  have h64 : x < 2 ^ 64 := Nat.lt_of_lt_of_le h (Nat.pow_le_pow_right (by decide) hn)
  rw [Lib.bitLen_half x (by omega) h64]
  by_cases c : x / 2 = 0
  ·rw [c]
   have : Lib.bitLen 0 = 0 := by decide
   rw [this]; simp; omega
  ·obtain ⟨a, b⟩ := ih (x / 2) (by rw [Nat.pow_succ] at h; omega) (by omega) (by omega)
   have p : 1 ≤ Lib.bitLen (x / 2) := by
    rcases Nat.eq_zero_or_pos (Lib.bitLen (x / 2)) with e | e
    ·rw [e] at b; simp at b; omega
    ·exact e
   rw [show 1 + Lib.bitLen (x / 2) - 1 = (Lib.bitLen (x / 2) - 1) + 1 by omega, show 1 + Lib.bitLen (x / 2) = Lib.bitLen (x / 2) + 1 by omega, Nat.pow_succ, Nat.pow_succ]
   omega
theorem lead {y : Nat} (h0 : 0 < y) (h : y < 18446744073709551616) : ∃ s : Nat, s ≤ 63 ∧ 64 - (Lib.bitLen y : Int) = (s : Int) ∧ y * 2 ^ s < 18446744073709551616 ∧ 9223372036854775808 ≤ y * 2 ^ s := by
 obtain ⟨a, b⟩ := bitLen_pow 64 y h h0 (by omega)
 have l := bitLen_le64 (y : Int) (by omega) (by omega)
 rw [Int.toNat_natCast] at l
 have p : 1 ≤ Lib.bitLen y := by
  rcases Nat.eq_zero_or_pos (Lib.bitLen y) with e | e
  ·rw [e] at b; simp at b; omega
  ·exact e
 refine ⟨64 - Lib.bitLen y, by omega, by omega, ?_, ?_⟩
 ·have : 18446744073709551616 = 2 ^ Lib.bitLen y * 2 ^ (64 - Lib.bitLen y) := by rw [← Nat.pow_add, show Lib.bitLen y + (64 - Lib.bitLen y) = 64 by omega]
  rw [this]; exact Nat.mul_lt_mul_of_pos_right b (Nat.two_pow_pos _)
 ·have : 9223372036854775808 = 2 ^ (Lib.bitLen y - 1) * 2 ^ (64 - Lib.bitLen y) := by rw [← Nat.pow_add, show Lib.bitLen y - 1 + (64 - Lib.bitLen y) = 63 by omega]
  rw [this]; exact Nat.mul_le_mul_right _ a
theorem or_shift {a b s : Nat} (h : b < 2 ^ s) (h64 : a * 2 ^ s + b < 18446744073709551616) : bits .or .u64 ((a * 2 ^ s : Nat) : Int) (b : Int) = ((a * 2 ^ s + b : Nat) : Int) := by
 have e := u64_or_nat (a * 2 ^ s) b (by omega) (by omega)
 rw [e, Nat.mul_comm a, Nat.two_pow_add_eq_or_of_lt h]
set_option maxRecDepth 100000 in
set_option maxHeartbeats 4000000 in
theorem div64_calls (hi lo y : Nat) (w : World) (h1 : hi < y) (h2 : y < 18446744073709551616) (h3 : lo < 18446744073709551616) :
  Calls Tryz.prog 107 #[.int .u64 hi, .int .u64 lo, .int .u64 y] w fun e w' => e = .returned (.tuple #[.int .u64 ((hi * 18446744073709551616 + lo) / y : Nat), .int .u64 ((hi * 18446744073709551616 + lo) % y : Nat)]) ∧ ∃ m, w' = w.drewN m := by
 have yn : ¬ y = 0 := by omega
 by_cases c0 : hi = 0
 ·subst c0
  have a3 : IntKind.u64.wrap ((lo : Int) / (y : Int)) = (lo : Int) / (y : Int) := by
   rw [← Int.natCast_ediv]; exact wrapN _ (Nat.lt_of_le_of_lt (Nat.div_le_self _ _) h3)
  have z : 0 * 18446744073709551616 + lo = lo := by omega
  rw [z, Int.natCast_ediv, Int.natCast_emod]
  clear z
  go_enter Tryz.func107, Tryz.ntmps107
  go_wp2_with fail
  go_quiet (fail)
  go_wp2_with fail
  go_ret2
  exact ⟨rfl, _, rfl⟩
 obtain ⟨s, s1, s2, s3, s4⟩ := lead (by omega) h2
 have LZ := Lib.hid (fun W => leading_calls (y : Int) W (by omega) (by omega))
 simp only [Int.toNat_natCast] at LZ
 rw [s2] at LZ
 have y1 : 0 < y := by omega
 have pw : 0 < 2 ^ s := Nat.two_pow_pos s
 have pd : 2 ^ s ∣ 18446744073709551616 := ⟨2 ^ (64 - s), by rw [← Nat.pow_add, show s + (64 - s) = 64 by omega]⟩
 have p64 : 18446744073709551616 / 2 ^ s = 2 ^ (64 - s) := by rw [show 18446744073709551616 = 2 ^ s * 2 ^ (64 - s) by rw [← Nat.pow_add, show s + (64 - s) = 64 by omega], Nat.mul_div_cancel_left _ pw]
 have MV := Dv.moved (hi := hi) (lo := lo) (y := y) pd h3
 rw [p64] at MV
 obtain ⟨BK1, BK2⟩ := Dv.back (N := hi * 18446744073709551616 + lo) (y := y) (s := s)
 rw [← MV] at BK1 BK2
 have l1 : lo / 2 ^ (64 - s) < 2 ^ s := (Nat.div_lt_iff_lt_mul (Nat.two_pow_pos _)).2 (by rw [← Nat.pow_add, show s + (64 - s) = 64 by omega]; exact h3)
 have hl : (hi + 1) * 2 ^ s ≤ y * 2 ^ s := Nat.mul_le_mul_right _ (by omega)
 rw [Nat.add_mul, Nat.one_mul] at hl
 have e6 := or_shift (a := hi) l1 (by omega)
 have e1 : IntKind.u64.wrap ((y : Int) * 2 ^ s) = ((y * 2 ^ s : Nat) : Int) := by
  have := wrapN (y * 2 ^ s) s3
  rw [Int.natCast_mul, Int.natCast_pow] at this
  rw [Int.natCast_mul, Int.natCast_pow]; exact this
 have e4 : IntKind.u64.wrap ((hi : Int) * 2 ^ s) = ((hi * 2 ^ s : Nat) : Int) := by
  have := wrapN (hi * 2 ^ s) (by omega)
  rw [Int.natCast_mul, Int.natCast_pow] at this
  rw [Int.natCast_mul, Int.natCast_pow]; exact this
 have e5 : (lo : Int) / 2 ^ (64 - s) = ((lo / 2 ^ (64 - s) : Nat) : Int) := by rw [Int.natCast_ediv, Int.natCast_pow]; rfl
 have e7 : IntKind.u64.wrap ((lo : Int) * 2 ^ s) = ((lo * 2 ^ s % 18446744073709551616 : Nat) : Int) := by
  rw [IntKind.wrap_u64, Int.natCast_emod, Int.natCast_mul, Int.natCast_pow]; rfl
 have u2 : hi * 2 ^ s + lo / 2 ^ (64 - s) < y * 2 ^ s := by omega
 have v2 : lo * 2 ^ s % 18446744073709551616 < 18446744073709551616 := Nat.mod_lt _ (by decide)
 clear l1 hl MV p64 pd
 generalize hi * 2 ^ s = H at *
 generalize lo / 2 ^ (64 - s) = L at *
 generalize lo * 2 ^ s % 18446744073709551616 = V at *
 obtain ⟨U, hU⟩ : ∃ U, H + L = U := ⟨_, rfl⟩
 rw [hU] at e6 u2 BK1 BK2
 clear hU
 obtain ⟨Y, hY⟩ : ∃ Y, y * 2 ^ s = Y := ⟨_, rfl⟩
 rw [hY] at e1 s3 s4 u2 BK1 BK2
 have HY := Lib.hid hY
 clear hY
 have yd := Nat.div_add_mod Y 4294967296
 have vd := Nat.div_add_mod V 4294967296
 have e2 : (Y : Int) / 4294967296 = ((Y / 4294967296 : Nat) : Int) := (Int.natCast_ediv Y 4294967296).symm
 have e3 := and32 Y s3
 have e8 : (V : Int) / 4294967296 = ((V / 4294967296 : Nat) : Int) := (Int.natCast_ediv V 4294967296).symm
 have e9 := and32 V v2
 have b1 : Y / 4294967296 < 4294967296 := by omega
 have b2 : 2147483648 ≤ Y / 4294967296 := by omega
 have b3 : Y % 4294967296 < 4294967296 := by omega
 have b4 : V / 4294967296 < 4294967296 := by omega
 have b5 : V % 4294967296 < 4294967296 := by omega
 generalize Y / 4294967296 = d1 at *
 generalize Y % 4294967296 = d0 at *
 generalize V / 4294967296 = u1 at *
 generalize V % 4294967296 = u0 at *
 have dn : ¬ d1 = 0 := by omega
 have EY : Hid (Y = d1 * 4294967296 + d0) := Lib.hid (by omega)
 have EV : Hid (V = u1 * 4294967296 + u0) := Lib.hid (by omega)
 clear yd vd
 have t1 := tdivN U d1
 have q1 : U / d1 ≤ U := Nat.div_le_self _ _
 have q2 := Nat.div_add_mod U d1
 have q3 : U % d1 < d1 := Nat.mod_lt _ (by omega)
 have g0 := Lib.hid (Dv.start (U := U) (u1 := u1) (d1 := d1) (d0 := d0) (by omega) b4)
 have t2 : IntKind.u64.wrap ((U / d1 : Nat) : Int) = ((U / d1 : Nat) : Int) := wrapN _ (by omega)
 have t3 : IntKind.u64.wrap (((U / d1 : Nat) : Int) * (d1 : Int)) = ((d1 * (U / d1) : Nat) : Int) := by
  rw [← Int.natCast_mul, Nat.mul_comm]; exact wrapN _ (by omega)
 have t4 : IntKind.u64.wrap ((U : Int) - ((d1 * (U / d1) : Nat) : Int)) = ((U % d1 : Nat) : Int) := by
  rw [show (U : Int) - ((d1 * (U / d1) : Nat) : Int) = ((U % d1 : Nat) : Int) by omega]; exact wrapN _ (by omega)
 generalize d1 * (U / d1) = z0 at *
 generalize U / d1 = Q0 at *
 generalize U % d1 = R0 at *
 clear s2
 go_enter Tryz.func107, Tryz.ntmps107
 go_wp2_with fail
 refine (LZ.out _).mono ?_
 rintro e w1 ⟨rfl, rfl⟩
 have Q0b : Q0 < 18446744073709551616 := by omega
 have R0b : R0 < 4294967296 := by omega
 obtain ⟨Q, hQ⟩ : ∃ Q, (U * 4294967296 + u1) / (d1 * 4294967296 + d0) = Q := ⟨_, rfl⟩
 have EY2 := EY.out
 have u3 : U < d1 * 4294967296 + d0 := by omega
 have U0 := Lib.hid u3
 have HQ : Hid ((U * 4294967296 + u1) / (d1 * 4294967296 + d0) = Q) := Lib.hid hQ
 have QT : Q < 4294967296 := by rw [← hQ]; exact Dv.top u3 b4
 have D0 : Hid (0 < d1) := Lib.hid (by omega)
 have QL0 := Dv.left (M := U * 4294967296 + u1) (y := d1 * 4294967296 + d0)
 rw [hQ] at QL0
 have QL := Lib.hid QL0
 clear QL0
 have K1 := Lib.hid BK1
 have K2 := Lib.hid BK2
 have S3 := Lib.hid s3
 have U2 := Lib.hid u2
 have V2 := Lib.hid v2
 clear hQ EY2 u3 BK1 BK2 q3 s4 s3 u2 v2 q2
 go_upto_block 0 with fail
 clear LZ t1 t2 t3 t4 e1 e2 e3 e4 e5 e6 e7 e8 e9 q1 HY
 go_cut [15, 16] from 67 to 85 (fun s15 s16 wx => s15 = .int .u64 Q ∧ (∃ r : Nat, s16 = .int .u64 r) ∧ wx = w1)
 case first =>
  go_wp2_with fail
  go_loopw [15, 16] (fun q r wr => ∃ q' r' : Nat, q = .int .u64 q' ∧ r = .int .u64 r' ∧ wr = w1 ∧ q' < 18446744073709551616 ∧ r' < 4294967296 ∧ Hid (Dv.G U u1 d1 d0 q' r')) (fun q _ _ => (intOf q).toNat)
  case atStart => exact ⟨Q0, R0, rfl, rfl, rfl, by omega, by omega, g0⟩
  case round =>
   obtain ⟨q, r, rfl, rfl, rfl, hq, hr, g⟩ := hrel
   clear g0
   obtain ⟨q2, hq2⟩ : ∃ q2, q - 1 = q2 := ⟨_, rfl⟩
   obtain ⟨r2, hr2⟩ : ∃ r2, r + d1 = r2 := ⟨_, rfl⟩
   have f2 : IntKind.u64.wrap ((r : Int) + (d1 : Int)) = (r2 : Int) := by
    rw [show (r : Int) + (d1 : Int) = (r2 : Int) by omega]; exact wrapN _ (by omega)
   by_cases c1 : 4294967296 ≤ q
   ·obtain ⟨q1, g'⟩ := g.out.down D0.out U0.out b4 (.inl c1)
    rw [hq2, hr2] at g'
    have G' := Lib.hid g'
    clear g g'
    have f1 : IntKind.u64.wrap ((q : Int) - 1) = (q2 : Int) := by
     rw [show (q : Int) - 1 = (q2 : Int) by omega]; exact wrapN _ (by omega)
    have ql : q2 < q := by omega
    have qb : q2 < 18446744073709551616 := by omega
    clear hq2 q1
    by_cases c3 : 4294967296 ≤ r2
    ·have DN := Lib.hid ((G'.out.done2 D0.out U0.out b3 c3).trans HQ.out)
     clear hr2
     have C1 := Lib.hid c1
     have kd : decide ((4294967296 : Int) ≤ (q : Int)) = true := decide_eq_true (by omega)
     have C3 := Lib.hid c3
     have ke : decide ((4294967296 : Int) ≤ (r2 : Int)) = true := decide_eq_true (by omega)
     clear c1 c3
     go_wp2_with fail
     go_meet
     exact ⟨by rw [DN.out], ⟨_, rfl⟩, by first | rfl | trivial⟩
    ·clear hr2
     have C1 := Lib.hid c1
     have kd : decide ((4294967296 : Int) ≤ (q : Int)) = true := decide_eq_true (by omega)
     have C3 := Lib.hid c3
     have ke : decide ((4294967296 : Int) ≤ (r2 : Int)) = false := decide_eq_false (by omega)
     clear c1 c3
     go_wp2_with fail
     exact ⟨⟨q2, r2, rfl, rfl, by first | rfl | trivial, qb, by have := C3.out; omega, G'⟩, by simp [intOf]; omega⟩
   ·obtain ⟨m1, hm1⟩ : ∃ m1, q * d0 = m1 := ⟨_, rfl⟩
    have m1b : m1 < 18446744073709551616 := by
     rw [← hm1]; exact Nat.lt_of_le_of_lt (Nat.mul_le_mul (show q ≤ 4294967295 by omega) (show d0 ≤ 4294967295 by omega)) (by decide)
    have f3 : IntKind.u64.wrap ((q : Int) * (d0 : Int)) = (m1 : Int) := by
     rw [← Int.natCast_mul, hm1]; exact wrapN _ m1b
    obtain ⟨m2, hm2⟩ : ∃ m2, 4294967296 * r = m2 := ⟨_, rfl⟩
    have f4 : IntKind.u64.wrap (4294967296 * (r : Int)) = (m2 : Int) := by
     rw [show 4294967296 * (r : Int) = (m2 : Int) by omega]; exact wrapN _ (by omega)
    obtain ⟨m3, hm3⟩ : ∃ m3, m2 + u1 = m3 := ⟨_, rfl⟩
    have f5 : IntKind.u64.wrap ((m2 : Int) + (u1 : Int)) = (m3 : Int) := by
     rw [show (m2 : Int) + (u1 : Int) = (m3 : Int) by omega]; exact wrapN _ (by omega)
    by_cases c4 : m3 < m1
    ·obtain ⟨q1, g'⟩ := g.out.down D0.out U0.out b4 (.inr (by rw [hm1]; omega))
     rw [hq2, hr2] at g'
     have G' := Lib.hid g'
     clear g g'
     have f1 : IntKind.u64.wrap ((q : Int) - 1) = (q2 : Int) := by
      rw [show (q : Int) - 1 = (q2 : Int) by omega]; exact wrapN _ (by omega)
     have ql : q2 < q := by omega
     have qb : q2 < 18446744073709551616 := by omega
     clear hq2 q1 hm1 hm2 hm3 m1b
     by_cases c3 : 4294967296 ≤ r2
     ·have DN := Lib.hid ((G'.out.done2 D0.out U0.out b3 c3).trans HQ.out)
      clear hr2
      have C1 := Lib.hid c1
      have kd : decide ((4294967296 : Int) ≤ (q : Int)) = false := decide_eq_false (by omega)
      have C3 := Lib.hid c3
      have ke : decide ((4294967296 : Int) ≤ (r2 : Int)) = true := decide_eq_true (by omega)
      clear c1 c3
      go_wp2_with fail
      go_meet
      exact ⟨by rw [DN.out], ⟨_, rfl⟩, by first | rfl | trivial⟩
     ·clear hr2
      have C1 := Lib.hid c1
      have kd : decide ((4294967296 : Int) ≤ (q : Int)) = false := decide_eq_false (by omega)
      have C3 := Lib.hid c3
      have ke : decide ((4294967296 : Int) ≤ (r2 : Int)) = false := decide_eq_false (by omega)
      clear c1 c3
      go_wp2_with fail
      exact ⟨⟨q2, r2, rfl, rfl, by first | rfl | trivial, qb, by have := C3.out; omega, G'⟩, by simp [intOf]; omega⟩
    ·have DN := Lib.hid ((g.out.done1 D0.out (by rw [hm1]; omega)).trans HQ.out)
     clear hq2 hm1 hm2 hm3 m1b hr2 g
     have C1 := Lib.hid c1
     have kd : decide ((4294967296 : Int) ≤ (q : Int)) = false := decide_eq_false (by omega)
     clear c1
     go_wp2_with fail
     go_meet
     exact ⟨by rw [DN.out], ⟨_, rfl⟩, by first | rfl | trivial⟩
 case rest =>
  obtain ⟨rfl, ⟨r9, rfl⟩, rfl⟩ := hcut
  clear g0 Q0b R0b
  have s3 := S3.out
  have u2 := U2.out
  have qM : Q * Y ≤ U * 4294967296 + u1 := by rw [EY.out, ← HQ.out]; exact Nat.div_mul_le_self _ _
  have BT := Dv.both (M := U * 4294967296 + u1) (u0 := u0) (y := Y) (by omega)
  obtain ⟨UU, hUU⟩ : ∃ UU, (U * 4294967296 + u1) % Y = UU := ⟨_, rfl⟩
  have uM : U * 4294967296 + u1 - Q * Y = UU := by have := QL.out; rw [← EY.out] at this; rw [this, hUU]
  have uu2 : UU < Y := by rw [← hUU]; exact Nat.mod_lt _ (by omega)
  rw [hUU, show (U * 4294967296 + u1) / Y = Q by rw [EY.out]; exact HQ.out, show (U * 4294967296 + u1) * 4294967296 + u0 = U * 18446744073709551616 + V by rw [EV.out]; grind, K1.out] at BT
  have UU0 : Hid (UU < d1 * 4294967296 + d0) := Lib.hid (by rw [← EY.out]; exact uu2)
  have a1 : IntKind.u64.wrap ((U : Int) * 4294967296) = ((U * 4294967296 % 18446744073709551616 : Nat) : Int) := by
   rw [IntKind.wrap_u64, Int.natCast_emod, Int.natCast_mul]; rfl
  have a2 : IntKind.u64.wrap (((U * 4294967296 % 18446744073709551616 : Nat) : Int) + (u1 : Int)) = (((U * 4294967296 + u1) % 18446744073709551616 : Nat) : Int) := by
   rw [IntKind.wrap_u64]; omega
  have a3 : IntKind.u64.wrap ((Q : Int) * (Y : Int)) = ((Q * Y % 18446744073709551616 : Nat) : Int) := by
   rw [IntKind.wrap_u64, Int.natCast_emod, Int.natCast_mul]; rfl
  have a4 : IntKind.u64.wrap ((((U * 4294967296 + u1) % 18446744073709551616 : Nat) : Int) - ((Q * Y % 18446744073709551616 : Nat) : Int)) = (UU : Int) := by
   rw [IntKind.wrap_u64]
   generalize Q * Y = QY at *
   omega
  obtain ⟨A1, hA1⟩ : ∃ A1, U * 4294967296 % 18446744073709551616 = A1 := ⟨_, rfl⟩
  obtain ⟨A2, hA2⟩ : ∃ A2, (U * 4294967296 + u1) % 18446744073709551616 = A2 := ⟨_, rfl⟩
  obtain ⟨A3, hA3⟩ : ∃ A3, Q * Y % 18446744073709551616 = A3 := ⟨_, rfl⟩
  rw [hA1] at a1 a2
  rw [hA2] at a2 a4
  rw [hA3] at a3 a4
  clear hA1 hA2 hA3
  have t1 := tdivN UU d1
  have q1 : UU / d1 ≤ UU := Nat.div_le_self _ _
  have q2 := Nat.div_add_mod UU d1
  have q3 : UU % d1 < d1 := Nat.mod_lt _ D0.out
  have gg0 := Lib.hid (Dv.start (U := UU) (u1 := u0) (d1 := d1) (d0 := d0) D0.out b5)
  have t2 : IntKind.u64.wrap ((UU / d1 : Nat) : Int) = ((UU / d1 : Nat) : Int) := wrapN _ (by omega)
  have t3 : IntKind.u64.wrap (((UU / d1 : Nat) : Int) * (d1 : Int)) = ((d1 * (UU / d1) : Nat) : Int) := by
   rw [← Int.natCast_mul, Nat.mul_comm]; exact wrapN _ (by omega)
  have t4 : IntKind.u64.wrap ((UU : Int) - ((d1 * (UU / d1) : Nat) : Int)) = ((UU % d1 : Nat) : Int) := by
   rw [show (UU : Int) - ((d1 * (UU / d1) : Nat) : Int) = ((UU % d1 : Nat) : Int) by omega]; exact wrapN _ (by omega)
  generalize d1 * (UU / d1) = zz0 at *
  generalize UU / d1 = QQ0 at *
  generalize UU % d1 = RR0 at *
  have Q0b : QQ0 < 18446744073709551616 := by omega
  have R0b : RR0 < 4294967296 := by omega
  obtain ⟨QQ, hQQ⟩ : ∃ QQ, (UU * 4294967296 + u0) / (d1 * 4294967296 + d0) = QQ := ⟨_, rfl⟩
  have HQQ : Hid ((UU * 4294967296 + u0) / (d1 * 4294967296 + d0) = QQ) := Lib.hid hQQ
  have QQT : QQ < 4294967296 := by rw [← hQQ]; exact Dv.top UU0.out b5
  have HUU := Lib.hid uu2
  have BTH := Lib.hid BT
  clear hQQ hUU uM qM q2 q3 s3 u2 uu2 BT
  go_upto_block 2 with fail
  clear a1 a2 a3 a4 t1 t2 t3 t4 q1
  go_cut [18, 16] from 102 to 120 (fun s18 s16 wx => s18 = .int .u64 QQ ∧ (∃ r : Nat, s16 = .int .u64 r) ∧ wx = wc)
  case first =>
   go_wp2_with fail
   go_loopw [18, 16] (fun q r wr => ∃ q' r' : Nat, q = .int .u64 q' ∧ r = .int .u64 r' ∧ wr = wc ∧ q' < 18446744073709551616 ∧ r' < 4294967296 ∧ Hid (Dv.G UU u0 d1 d0 q' r')) (fun q _ _ => (intOf q).toNat)
   case atStart => exact ⟨QQ0, RR0, rfl, rfl, rfl, by omega, by omega, gg0⟩
   case round =>
    obtain ⟨q, r, rfl, rfl, rfl, hq, hr, g⟩ := hrel
    clear gg0
    obtain ⟨q2, hq2⟩ : ∃ q2, q - 1 = q2 := ⟨_, rfl⟩
    obtain ⟨r2, hr2⟩ : ∃ r2, r + d1 = r2 := ⟨_, rfl⟩
    have f2 : IntKind.u64.wrap ((r : Int) + (d1 : Int)) = (r2 : Int) := by
     rw [show (r : Int) + (d1 : Int) = (r2 : Int) by omega]; exact wrapN _ (by omega)
    by_cases c1 : 4294967296 ≤ q
    ·obtain ⟨q1, g'⟩ := g.out.down D0.out UU0.out b5 (.inl c1)
     rw [hq2, hr2] at g'
     have G' := Lib.hid g'
     clear g g'
     have f1 : IntKind.u64.wrap ((q : Int) - 1) = (q2 : Int) := by
      rw [show (q : Int) - 1 = (q2 : Int) by omega]; exact wrapN _ (by omega)
     have ql : q2 < q := by omega
     have qb : q2 < 18446744073709551616 := by omega
     clear hq2 q1
     by_cases c3 : 4294967296 ≤ r2
     ·have DN := Lib.hid ((G'.out.done2 D0.out UU0.out b3 c3).trans HQQ.out)
      clear hr2
      have C1 := Lib.hid c1
      have kd : decide ((4294967296 : Int) ≤ (q : Int)) = true := decide_eq_true (by omega)
      have C3 := Lib.hid c3
      have ke : decide ((4294967296 : Int) ≤ (r2 : Int)) = true := decide_eq_true (by omega)
      clear c1 c3
      go_wp2_with fail
      go_meet
      exact ⟨by rw [DN.out], ⟨_, rfl⟩, by first | rfl | trivial⟩
     ·clear hr2
      have C1 := Lib.hid c1
      have kd : decide ((4294967296 : Int) ≤ (q : Int)) = true := decide_eq_true (by omega)
      have C3 := Lib.hid c3
      have ke : decide ((4294967296 : Int) ≤ (r2 : Int)) = false := decide_eq_false (by omega)
      clear c1 c3
      go_wp2_with fail
      exact ⟨⟨q2, r2, rfl, rfl, by first | rfl | trivial, qb, by have := C3.out; omega, G'⟩, by simp [intOf]; omega⟩
    ·obtain ⟨m1, hm1⟩ : ∃ m1, q * d0 = m1 := ⟨_, rfl⟩
     have m1b : m1 < 18446744073709551616 := by
      rw [← hm1]; exact Nat.lt_of_le_of_lt (Nat.mul_le_mul (show q ≤ 4294967295 by omega) (show d0 ≤ 4294967295 by omega)) (by decide)
     have f3 : IntKind.u64.wrap ((q : Int) * (d0 : Int)) = (m1 : Int) := by
      rw [← Int.natCast_mul, hm1]; exact wrapN _ m1b
     obtain ⟨m2, hm2⟩ : ∃ m2, 4294967296 * r = m2 := ⟨_, rfl⟩
     have f4 : IntKind.u64.wrap (4294967296 * (r : Int)) = (m2 : Int) := by
      rw [show 4294967296 * (r : Int) = (m2 : Int) by omega]; exact wrapN _ (by omega)
     obtain ⟨m3, hm3⟩ : ∃ m3, m2 + u0 = m3 := ⟨_, rfl⟩
     have f5 : IntKind.u64.wrap ((m2 : Int) + (u0 : Int)) = (m3 : Int) := by
      rw [show (m2 : Int) + (u0 : Int) = (m3 : Int) by omega]; exact wrapN _ (by omega)
     by_cases c4 : m3 < m1
     ·obtain ⟨q1, g'⟩ := g.out.down D0.out UU0.out b5 (.inr (by rw [hm1]; omega))
      rw [hq2, hr2] at g'
      have G' := Lib.hid g'
      clear g g'
      have f1 : IntKind.u64.wrap ((q : Int) - 1) = (q2 : Int) := by
       rw [show (q : Int) - 1 = (q2 : Int) by omega]; exact wrapN _ (by omega)
      have ql : q2 < q := by omega
      have qb : q2 < 18446744073709551616 := by omega
      clear hq2 q1 hm1 hm2 hm3 m1b
      by_cases c3 : 4294967296 ≤ r2
      ·have DN := Lib.hid ((G'.out.done2 D0.out UU0.out b3 c3).trans HQQ.out)
       clear hr2
       have C1 := Lib.hid c1
       have kd : decide ((4294967296 : Int) ≤ (q : Int)) = false := decide_eq_false (by omega)
       have C3 := Lib.hid c3
       have ke : decide ((4294967296 : Int) ≤ (r2 : Int)) = true := decide_eq_true (by omega)
       clear c1 c3
       go_wp2_with fail
       go_meet
       exact ⟨by rw [DN.out], ⟨_, rfl⟩, by first | rfl | trivial⟩
      ·clear hr2
       have C1 := Lib.hid c1
       have kd : decide ((4294967296 : Int) ≤ (q : Int)) = false := decide_eq_false (by omega)
       have C3 := Lib.hid c3
       have ke : decide ((4294967296 : Int) ≤ (r2 : Int)) = false := decide_eq_false (by omega)
       clear c1 c3
       go_wp2_with fail
       exact ⟨⟨q2, r2, rfl, rfl, by first | rfl | trivial, qb, by have := C3.out; omega, G'⟩, by simp [intOf]; omega⟩
     ·have DN := Lib.hid ((g.out.done1 D0.out (by rw [hm1]; omega)).trans HQQ.out)
      clear hq2 hm1 hm2 hm3 m1b hr2 g
      have C1 := Lib.hid c1
      have kd : decide ((4294967296 : Int) ≤ (q : Int)) = false := decide_eq_false (by omega)
      clear c1
      go_wp2_with fail
      go_meet
      exact ⟨by rw [DN.out], ⟨_, rfl⟩, by first | rfl | trivial⟩
  case rest =>
   obtain ⟨rfl, ⟨r8, rfl⟩, rfl⟩ := hcut
   clear gg0 Q0b R0b
   have s3 := S3.out
   have uu2 := HUU.out
   obtain ⟨bt1, bt2⟩ := BTH.out
   have k2 := K2.out
   rw [← bt2] at k2
   have qM : QQ * Y ≤ UU * 4294967296 + u0 := by rw [EY.out, ← HQQ.out]; exact Nat.div_mul_le_self _ _
   have QL2 := Dv.left (M := UU * 4294967296 + u0) (y := Y)
   have e1 : (UU * 4294967296 + u0) / Y = QQ := by rw [EY.out]; exact HQQ.out
   rw [e1] at QL2 bt1
   rw [← QL2] at k2
   have rl : (UU * 4294967296 + u0) % Y < Y := Nat.mod_lt _ (by omega)
   rw [← QL2] at rl
   have a0 : IntKind.u64.wrap ((Q : Int) * 4294967296) = ((Q * 4294967296 : Nat) : Int) := by
    rw [IntKind.wrap_u64]; omega
   have a9 : IntKind.u64.wrap (((Q * 4294967296 : Nat) : Int) + (QQ : Int)) = ((Q * 4294967296 + QQ : Nat) : Int) := by
    rw [IntKind.wrap_u64]; omega
   have a1 : IntKind.u64.wrap ((UU : Int) * 4294967296) = ((UU * 4294967296 % 18446744073709551616 : Nat) : Int) := by
    rw [IntKind.wrap_u64, Int.natCast_emod, Int.natCast_mul]; rfl
   have a2 : IntKind.u64.wrap (((UU * 4294967296 % 18446744073709551616 : Nat) : Int) + (u0 : Int)) = (((UU * 4294967296 + u0) % 18446744073709551616 : Nat) : Int) := by
    rw [IntKind.wrap_u64]; omega
   have a3 : IntKind.u64.wrap ((QQ : Int) * (Y : Int)) = ((QQ * Y % 18446744073709551616 : Nat) : Int) := by
    rw [IntKind.wrap_u64, Int.natCast_emod, Int.natCast_mul]; rfl
   have a4 : IntKind.u64.wrap ((((UU * 4294967296 + u0) % 18446744073709551616 : Nat) : Int) - ((QQ * Y % 18446744073709551616 : Nat) : Int)) = ((UU * 4294967296 + u0 - QQ * Y : Nat) : Int) := by
    rw [IntKind.wrap_u64]
    clear bt1 QL2 e1
    generalize QQ * Y = QY at *
    omega
   obtain ⟨A0, hA0⟩ : ∃ A0, Q * 4294967296 = A0 := ⟨_, rfl⟩
   obtain ⟨A5, hA5⟩ : ∃ A5, Q * 4294967296 + QQ = A5 := ⟨_, rfl⟩
   obtain ⟨A1, hA1⟩ : ∃ A1, UU * 4294967296 % 18446744073709551616 = A1 := ⟨_, rfl⟩
   obtain ⟨A2, hA2⟩ : ∃ A2, (UU * 4294967296 + u0) % 18446744073709551616 = A2 := ⟨_, rfl⟩
   obtain ⟨A3, hA3⟩ : ∃ A3, QQ * Y % 18446744073709551616 = A3 := ⟨_, rfl⟩
   obtain ⟨A4, hA4⟩ : ∃ A4, UU * 4294967296 + u0 - QQ * Y = A4 := ⟨_, rfl⟩
   rw [hA5] at a9 bt1
   rw [hA0] at a0 a9
   rw [hA1] at a1 a2
   rw [hA2] at a2 a4
   rw [hA3] at a3 a4
   rw [hA4] at a4 k2
   have sm : min s 64 = s := by omega
   clear hA0 hA1 hA2 hA3 hA4 hA5 qM QL2 e1 rl s3 uu2 bt2
   have R1 := Lib.hid bt1
   have R2 := Lib.hid k2
   clear bt1 k2
   go_wp2_with fail
   go_ret2
   exact ⟨by rw [← R1.out, ← R2.out, Int.natCast_ediv, Int.natCast_pow]; rfl, 0, rfl⟩
end Go.Proofs.YtfangplfbbgphaaGreatDoor
namespace Go.Proofs.YtfangplfbbgphaaGreatDoor
open Go.ChangeShapes Go.WideShapes Go.ChangeAt Go.RowKit
set_option linter.unusedVariables false
set_option maxRecDepth 100000
attribute [local go_sem ↓] Go.wp_at_zero Go.wp_at_succ
theorem lt_digit {a b u v : Nat} (ha : a < 4294967296) (hb : b < 4294967296) : (a + 4294967296 * u < b + 4294967296 * v) ↔ (u < v ∨ (u = v ∧ a < b)) := by omega
theorem dg_split {x : Nat} (h : sm4 x) : ∃ u v : Nat, x = dg x 0 + 4294967296 * u ∧ u = dg x 1 + 4294967296 * v ∧ v = dg x 2 + 4294967296 * dg x 3 := by
 refine ⟨x / 4294967296, x / 4294967296 / 4294967296, ?_, ?_, ?_⟩
 ·show x = x % 4294967296 + _
  omega
 ·show x / 4294967296 = x / 4294967296 % 4294967296 + _
  omega
 ·show x / 4294967296 / 4294967296 = x / 4294967296 / 4294967296 % 4294967296 + 4294967296 * (x / 4294967296 / 4294967296 / 4294967296 % 4294967296)
  unfold sm4 at h
  omega
theorem below_plain {x y : Nat} (hx : sm4 x) (hy : sm4 y) :
  (dg x 3 ≠ dg y 3 → decide (x < y) = decide (dg x 3 < dg y 3)) ∧ (dg x 3 = dg y 3 → dg x 2 ≠ dg y 2 → decide (x < y) = decide (dg x 2 < dg y 2)) ∧ (dg x 3 = dg y 3 → dg x 2 = dg y 2 → dg x 1 ≠ dg y 1 → decide (x < y) = decide (dg x 1 < dg y 1)) ∧
  (dg x 3 = dg y 3 → dg x 2 = dg y 2 → dg x 1 = dg y 1 → dg x 0 ≠ dg y 0 → decide (x < y) = decide (dg x 0 < dg y 0)) ∧ (dg x 3 = dg y 3 → dg x 2 = dg y 2 → dg x 1 = dg y 1 → dg x 0 = dg y 0 → decide (x < y) = false) := by
 obtain ⟨u, v, e1, e2, e3⟩ := dg_split hx
 obtain ⟨s, t, f1, f2, f3⟩ := dg_split hy
 have l0 := dg_lt x 0
 have l1 := dg_lt x 1
 have l2 := dg_lt x 2
 have m0 := dg_lt y 0
 have m1 := dg_lt y 1
 have m2 := dg_lt y 2
 have k : x < y ↔ (dg x 3 < dg y 3 ∨ (dg x 3 = dg y 3 ∧ (dg x 2 < dg y 2 ∨ (dg x 2 = dg y 2 ∧ (dg x 1 < dg y 1 ∨ (dg x 1 = dg y 1 ∧ dg x 0 < dg y 0)))))) := by
  generalize dg x 0 = x0 at *
  generalize dg x 1 = x1 at *
  generalize dg x 2 = x2 at *
  generalize dg x 3 = x3 at *
  generalize dg y 0 = y0 at *
  generalize dg y 1 = y1 at *
  generalize dg y 2 = y2 at *
  generalize dg y 3 = y3 at *
  subst e3 f3
  have a1 := lt_digit (u := x3) (v := y3) l2 m2
  have a2 := lt_digit (u := u) (v := s) l0 m0
  have a3 := lt_digit (u := x2 + 4294967296 * x3) (v := y2 + 4294967296 * y3) l1 m1
  rw [← e1, ← f1] at a2
  rw [← e2, ← f2] at a3
  rw [a2, a3, a1]
  omega
 refine ⟨fun h => ?_, fun h h' => ?_, fun h h' h2 => ?_, fun h h' h2 h3 => ?_, fun h h' h2 h3 => ?_⟩
 all_goals first | (rw [decide_eq_false_iff_not, k]; omega) | (rw [decide_eq_decide, k]; omega)
set_option maxHeartbeats 4000000 in
theorem refBelow_calls (x y : Nat) (w : World) (hx : sm4 x) (hy : sm4 y) :
  Calls Tryz.prog 120 #[Dv x, Dv y] w fun e w' => e = .returned (.bool (decide (x < y))) ∧ Below w.heap.size w w' := by
 have PL := Lib.hid (below_plain hx hy)
 clear hx hy
 generalize decide (x < y) = res at *
 unfold Dv
 generalize dg x 0 = x0 at *
 generalize dg x 1 = x1 at *
 generalize dg x 2 = x2 at *
 generalize dg x 3 = x3 at *
 generalize dg y 0 = y0 at *
 generalize dg y 1 = y1 at *
 generalize dg y 2 = y2 at *
 generalize dg y 3 = y3 at *
 go_enter Tryz.func120, Tryz.ntmps120
 go_wp2_with fail
 have XB : Hid (((w.alloc (.cells #[.int .u64 (x0 : Int), .int .u64 (x1 : Int), .int .u64 (x2 : Int), .int .u64 (x3 : Int)] 156)).alloc (.cells #[.int .u64 (y0 : Int), .int .u64 (y1 : Int), .int .u64 (y2 : Int), .int .u64 (y3 : Int)] 156)).heap[w.heap.size]? = some (.cells #[.int .u64 (x0 : Int), .int .u64 (x1 : Int), .int .u64 (x2 : Int), .int .u64 (x3 : Int)] 156)) := Lib.hid (blk1 w _ _)
 have YB : Hid (((w.alloc (.cells #[.int .u64 (x0 : Int), .int .u64 (x1 : Int), .int .u64 (x2 : Int), .int .u64 (x3 : Int)] 156)).alloc (.cells #[.int .u64 (y0 : Int), .int .u64 (y1 : Int), .int .u64 (y2 : Int), .int .u64 (y3 : Int)] 156)).heap[w.heap.size + 1]? = some (.cells #[.int .u64 (y0 : Int), .int .u64 (y1 : Int), .int .u64 (y2 : Int), .int .u64 (y3 : Int)] 156)) := Lib.hid (blk2 w _ _)
 have NB : Hid (Below w.heap.size w ((w.alloc (.cells #[.int .u64 (x0 : Int), .int .u64 (x1 : Int), .int .u64 (x2 : Int), .int .u64 (x3 : Int)] 156)).alloc (.cells #[.int .u64 (y0 : Int), .int .u64 (y1 : Int), .int .u64 (y2 : Int), .int .u64 (y3 : Int)] 156))) := Lib.hid (Bal (Bal (Below.refl _ _) _) _)
 generalize (w.alloc (.cells #[.int .u64 (x0 : Int), .int .u64 (x1 : Int), .int .u64 (x2 : Int), .int .u64 (x3 : Int)] 156)).alloc (.cells #[.int .u64 (y0 : Int), .int .u64 (y1 : Int), .int .u64 (y2 : Int), .int .u64 (y3 : Int)] 156) = W at *
 go_loopw [5] (fun i wr => ∃ n, wr = W.drewN n ∧ ((i = .int .i64 3) ∨ (i = .int .i64 2 ∧ Hid (x3 = y3)) ∨ (i = .int .i64 1 ∧ Hid (x3 = y3) ∧ Hid (x2 = y2)) ∨ (i = .int .i64 0 ∧ Hid (x3 = y3) ∧ Hid (x2 = y2) ∧ Hid (x1 = y1)) ∨ (i = .int .i64 (-1) ∧ Hid (x3 = y3) ∧ Hid (x2 = y2) ∧ Hid (x1 = y1) ∧ Hid (x0 = y0)))) (fun i _ => (intOf i + 1).toNat)
 case atStart => exact ⟨0, rfl, .inl rfl⟩
 case round =>
  obtain ⟨n, rfl, (rfl | ⟨rfl, E0⟩ | ⟨rfl, E0, E1⟩ | ⟨rfl, E0, E1, E2⟩ | ⟨rfl, E0, E1, E2, E3⟩)⟩ := hrel
  ·have ox := blk_cell XB.out 3 _ rfl
   have oy := blk_cell YB.out 3 _ rfl
   by_cases hd : x3 = y3
   ·have hq : ((x3 : Int) != (y3 : Int)) = false := by rw [hd]; simp
    have E0 := Lib.hid hd
    clear hd
    go_wp2_with fail
    go_quiet (fail)
    go_wp2_with fail
    exact ⟨⟨n + nq, rfl, .inr (.inl ⟨rfl, E0⟩)⟩, by simp [intOf]⟩
   ·have hq : ((x3 : Int) != (y3 : Int)) = true := by rw [bne_iff_ne]; omega
    have FE := Lib.hid (PL.out.1  hd)
    clear hd
    go_wp2_with fail
    go_quiet (fail)
    go_wp2_with fail
    go_quiet (fail)
    go_wp2_with fail
    go_ret
    exact ⟨ret_bool (by rw [FE.out]), by first | exact below_drewN NB.out _ | exact below_drewN (below_drewN NB.out _) _ | exact below_drewN (below_drewN (below_drewN NB.out _) _) _⟩
  ·have ox := blk_cell XB.out 2 _ rfl
   have oy := blk_cell YB.out 2 _ rfl
   by_cases hd : x2 = y2
   ·have hq : ((x2 : Int) != (y2 : Int)) = false := by rw [hd]; simp
    have E1 := Lib.hid hd
    clear hd
    go_wp2_with fail
    go_quiet (fail)
    go_wp2_with fail
    exact ⟨⟨n + nq, rfl, .inr (.inr (.inl ⟨rfl, E0, E1⟩))⟩, by simp [intOf]⟩
   ·have hq : ((x2 : Int) != (y2 : Int)) = true := by rw [bne_iff_ne]; omega
    have FE := Lib.hid (PL.out.2.1 E0.out hd)
    clear hd
    go_wp2_with fail
    go_quiet (fail)
    go_wp2_with fail
    go_quiet (fail)
    go_wp2_with fail
    go_ret
    exact ⟨ret_bool (by rw [FE.out]), by first | exact below_drewN NB.out _ | exact below_drewN (below_drewN NB.out _) _ | exact below_drewN (below_drewN (below_drewN NB.out _) _) _⟩
  ·have ox := blk_cell XB.out 1 _ rfl
   have oy := blk_cell YB.out 1 _ rfl
   by_cases hd : x1 = y1
   ·have hq : ((x1 : Int) != (y1 : Int)) = false := by rw [hd]; simp
    have E2 := Lib.hid hd
    clear hd
    go_wp2_with fail
    go_quiet (fail)
    go_wp2_with fail
    exact ⟨⟨n + nq, rfl, .inr (.inr (.inr (.inl ⟨rfl, E0, E1, E2⟩)))⟩, by simp [intOf]⟩
   ·have hq : ((x1 : Int) != (y1 : Int)) = true := by rw [bne_iff_ne]; omega
    have FE := Lib.hid (PL.out.2.2.1 E0.out E1.out hd)
    clear hd
    go_wp2_with fail
    go_quiet (fail)
    go_wp2_with fail
    go_quiet (fail)
    go_wp2_with fail
    go_ret
    exact ⟨ret_bool (by rw [FE.out]), by first | exact below_drewN NB.out _ | exact below_drewN (below_drewN NB.out _) _ | exact below_drewN (below_drewN (below_drewN NB.out _) _) _⟩
  ·have ox := blk_cell XB.out 0 _ rfl
   have oy := blk_cell YB.out 0 _ rfl
   by_cases hd : x0 = y0
   ·have hq : ((x0 : Int) != (y0 : Int)) = false := by rw [hd]; simp
    have E3 := Lib.hid hd
    clear hd
    go_wp2_with fail
    go_quiet (fail)
    go_wp2_with fail
    exact ⟨⟨n + nq, rfl, .inr (.inr (.inr (.inr (⟨rfl, E0, E1, E2, E3⟩))))⟩, by simp [intOf]⟩
   ·have hq : ((x0 : Int) != (y0 : Int)) = true := by rw [bne_iff_ne]; omega
    have FE := Lib.hid (PL.out.2.2.2.1 E0.out E1.out E2.out hd)
    clear hd
    go_wp2_with fail
    go_quiet (fail)
    go_wp2_with fail
    go_quiet (fail)
    go_wp2_with fail
    go_ret
    exact ⟨ret_bool (by rw [FE.out]), by first | exact below_drewN NB.out _ | exact below_drewN (below_drewN NB.out _) _ | exact below_drewN (below_drewN (below_drewN NB.out _) _) _⟩
  ·have FE := Lib.hid (PL.out.2.2.2.2 E0.out E1.out E2.out E3.out)
   go_wp2_with fail
   go_ret
   exact ⟨ret_bool FE.out.symm, below_drewN NB.out _⟩
theorem sm4_prod64 {a b : Nat} (ha : a ≤ 9223372036854775808) (hb : b ≤ 9223372036854775808) : sm4 (a * b) := by
 have h := Nat.mul_le_mul ha hb
 unfold sm4
 generalize a * b = p at *
 omega
abbrev set4 (w : World) (g : Nat) (a b c d : Value) : World := (((w.setCell ⟨g, 0, none⟩ a).setCell ⟨g, 1, none⟩ b).setCell ⟨g, 2, none⟩ c).setCell ⟨g, 3, none⟩ d
theorem blk_put4 {w : World} {g : Nat} {x y z u : Value} {t : TypeId} (h : w.heap[g]? = some (.cells #[x, y, z, u] t)) (a b c d : Value) : (set4 w g a b c d).heap[g]? = some (.cells #[a, b, c, d] t) := blk_set (blk_set (blk_set (blk_set h 0 a) 1 b) 2 c) 3 d
theorem blk_put4_other {w : World} {g k : Nat} {o : Obj} (h : w.heap[k]? = some o) (hne : g ≠ k) (a b c d : Value) : (set4 w g a b c d).heap[k]? = some o := blk_set_other (blk_set_other (blk_set_other (blk_set_other h hne 0 a) hne 1 b) hne 2 c) hne 3 d
theorem sz4 (w : World) (g : Nat) (a b c d : Value) : (set4 w g a b c d).heap.size = w.heap.size := by simp [World.setCell]
theorem blk_dr {w : World} {b : Nat} {o : Obj} (h : w.heap[b]? = some o) : w.drew.heap[b]? = some o := h
structure P2 (w W : World) (an ad bn bd : Int) : Prop where
 a : W.heap[w.heap.size]? = some (.cells #[.int .i64 an, .int .i64 ad] 36)
 b : W.heap[w.heap.size + 1]? = some (.cells #[.int .i64 bn, .int .i64 bd] 36)
 n : Below w.heap.size w W
theorem P2.next {w W W' : World} {an ad bn bd : Int} (h : P2 w W an ad bn bd) (hb : Below W.heap.size W W') : P2 w W' an ad bn bd := ⟨blk_next hb h.a, blk_next hb h.b, Bgo h.n hb⟩
theorem P2.init (w : World) (an ad bn bd : Int) : P2 w ((w.alloc (.cells #[.int .i64 an, .int .i64 ad] 36)).alloc (.cells #[.int .i64 bn, .int .i64 bd] 36)) an ad bn bd := ⟨blk1 w _ _, blk2 w _ _, Bal (Bal (Below.refl _ _) _) _⟩
set_option maxRecDepth 100000 in
set_option maxHeartbeats 8000000 in
theorem refLess_calls (an ad bn bd : Int) (w : World) (h1 : -9223372036854775808 ≤ an) (h2 : an ≤ 9223372036854775807) (h3 : 1 ≤ ad) (h4 : ad ≤ 9223372036854775807) (h5 : -9223372036854775808 ≤ bn) (h6 : bn ≤ 9223372036854775807) (h7 : 1 ≤ bd) (h8 : bd ≤ 9223372036854775807) :
  Calls Tryz.prog 114 #[Fv an ad, Fv bn bd] w fun e w' => e = .returned (.bool (decide (an * bd < bn * ad))) ∧ Below w.heap.size w w' := by
 have A1 := absmul (n := an) (d := bd) (by omega)
 have A2 := absmul (n := bn) (d := ad) (by omega)
 have nn1 : an < 0 → an * bd < 0 := fun h => Int.mul_neg_of_neg_of_pos h (by omega)
 have nn2 : 0 ≤ an → 0 ≤ an * bd := fun h => Int.mul_nonneg h (by omega)
 have nn3 : bn < 0 → bn * ad < 0 := fun h => Int.mul_neg_of_neg_of_pos h (by omega)
 have nn4 : 0 ≤ bn → 0 ≤ bn * ad := fun h => Int.mul_nonneg h (by omega)
 have S1 := Lib.hid (fun W => abs_calls an W h1 h2)
 have S3 := Lib.hid (fun W => abs_calls bn W h5 h6)
 obtain ⟨y, rfl⟩ := Int.eq_ofNat_of_zero_le (show 0 ≤ ad by omega)
 obtain ⟨v, rfl⟩ := Int.eq_ofNat_of_zero_le (show 0 ≤ bd by omega)
 rw [Int.natAbs_natCast] at A1 A2
 have M1 := Lib.hid (fun W => refProduct_calls an.natAbs v W (by omega) (by omega))
 have M2 := Lib.hid (fun W => refProduct_calls bn.natAbs y W (by omega) (by omega))
 have q1 := sm4_prod64 (a := an.natAbs) (b := v) (by omega) (by omega)
 have q2 := sm4_prod64 (a := bn.natAbs) (b := y) (by omega) (by omega)
 generalize an.natAbs * v = P at *
 generalize bn.natAbs * y = Q at *
 generalize an.natAbs = x at *
 generalize bn.natAbs = u at *
 generalize an * (v : Int) = xi at *
 generalize bn * (y : Int) = yi at *
 have BC1 := Lib.hid (fun W => refBelow_calls P Q W q1 q2)
 have BC2 := Lib.hid (fun W => refBelow_calls Q P W q2 q1)
 clear q1 q2
 have wy : IntKind.u64.wrap (y : Int) = (y : Int) := wrapN _ (by omega)
 have wv : IntKind.u64.wrap (v : Int) = (v : Int) := wrapN _ (by omega)
 by_cases cs : decide (an < 0) = decide (bn < 0)
 ·have SG : Hid (if an < 0 then decide (xi < yi) = decide (Q < P) else decide (xi < yi) = decide (P < Q)) := Lib.hid (by
   by_cases c1 : an < 0
   ·have c2 : bn < 0 := by rw [decide_eq_true c1] at cs; exact of_decide_eq_true cs.symm
    rw [if_pos c1] at A1 ⊢
    rw [if_pos c2] at A2
    rw [decide_eq_decide]; omega
   ·have c2 : ¬ bn < 0 := by rw [decide_eq_false c1] at cs; exact of_decide_eq_false cs.symm
    rw [if_neg c1] at A1 ⊢
    rw [if_neg c2] at A2
    rw [decide_eq_decide]; omega)
  generalize decide (xi < yi) = res at *
  clear A1 A2 nn1 nn2 nn3 nn4
  have cs' : (decide (an < 0) == decide (bn < 0)) = true := by rw [cs]; simp
  clear cs
  go_enter Tryz.func114, Tryz.ntmps114
  go_upto_region 3 with fail
  have K := Lib.hid (P2.init w an y bn v)
  generalize (w.alloc (.cells #[.int .i64 an, .int .i64 y] 36)).alloc (.cells #[.int .i64 bn, .int .i64 v] 36) = W at *
  go_cut [5, 6] (fun s5 s6 wx => ∃ (g5 g6 : Nat), s5 = .pointer (some ⟨g5, 0, none⟩) ∧ s6 = .pointer (some ⟨g6, 0, none⟩) ∧ Hid (P2 w wx an y bn v) ∧ Hid (wx.heap[g5]? = some (.cells #[.int .u64 (dg P 0 : Int), .int .u64 (dg P 1 : Int), .int .u64 (dg P 2 : Int), .int .u64 (dg P 3 : Int)] 156)) ∧ Hid (wx.heap[g6]? = some (.cells #[.int .u64 (dg Q 0 : Int), .int .u64 (dg Q 1 : Int), .int .u64 (dg Q 2 : Int), .int .u64 (dg Q 3 : Int)] 156)))
  case first =>
   have KEEP : Hid (∀ X : World, Below W.heap.size W X → X.cell? ⟨w.heap.size, 0, none⟩ = some (.int .i64 an) ∧ X.cell? ⟨w.heap.size, 1, none⟩ = some (.int .i64 y) ∧ X.cell? ⟨w.heap.size + 1, 0, none⟩ = some (.int .i64 bn) ∧ X.cell? ⟨w.heap.size + 1, 1, none⟩ = some (.int .i64 v)) := Lib.hid (fun X hX => ⟨blk_cell (K.out.next hX).a 0 _ rfl, blk_cell (K.out.next hX).a 1 _ rfl, blk_cell (K.out.next hX).b 0 _ rfl, blk_cell (K.out.next hX).b 1 _ rfl⟩)
   obtain ⟨k1, k2, k3, k4⟩ := KEEP.out W (Below.refl _ _)
   have HW1 : Hid (w.heap.size + 1 < W.heap.size) := Lib.hid (blk_lt K.out.b)
   go_region_held3 (fun X => X.cell? ⟨w.heap.size, 0, none⟩ = some (.int .i64 an) ∧ X.cell? ⟨w.heap.size, 1, none⟩ = some (.int .i64 y) ∧ X.cell? ⟨w.heap.size + 1, 0, none⟩ = some (.int .i64 bn) ∧ X.cell? ⟨w.heap.size + 1, 1, none⟩ = some (.int .i64 v))
    ((refine KEEP.out _ ?_; (repeat (first | (with_reducible exact Below.refl _ _) | (with_reducible exact BQ.out) | (with_reducible exact BP.out) | (with_reducible refine Below.drew ?_) | (with_reducible refine Bal ?_ _) | (with_reducible refine Bset1 ?_ (by first | exact Nat.le_refl _ | exact Nat.le_succ _ | exact BP.out.size | exact Nat.le_succ_of_le BP.out.size | exact BQ.out.size | exact Nat.le_succ_of_le BQ.out.size | (simp; omega)) _ _)))))
    (first
     | (go_at_call 92; (first | (with_reducible refine (S1.out _).mono ?_) | (with_reducible refine (S3.out _).mono ?_)); rintro e wa ⟨rfl, rfl⟩)
     | (go_at_call 94; (with_reducible refine (M1.out _).mono ?_); rintro e wp ⟨rfl, bp⟩; have BP : Hid (Below W.heap.size W wp) := Lib.hid (by refine Bgo ?_ bp; (repeat (first | (with_reducible exact Below.refl _ _) | (with_reducible refine Below.drew ?_) | (with_reducible refine Bal ?_ _)))); (first | (have RA : Hid (wp.heap[W.heap.size]? = some (.cells #[.int .u64 0, .int .u64 0, .int .u64 0, .int .u64 0] 156)) := Lib.hid (by first | (with_reducible exact blk_next bp (blk_new W _)) | (with_reducible exact blk_next (undrewB bp) (blk_new W _)) | (with_reducible exact blk_next bp (blk1 W _ _)) | (with_reducible exact blk_next (undrewB bp) (blk1 W _ _)))) | skip); (first | (have RB : Hid (wp.heap[W.heap.size + 1]? = some (.cells #[.int .u64 0, .int .u64 0, .int .u64 0, .int .u64 0] 156)) := Lib.hid (by first | (with_reducible exact blk_next bp (blk2 W _ _)) | (with_reducible exact blk_next (undrewB bp) (blk2 W _ _)))) | skip); clear bp)
     | (go_at_call 94; (with_reducible refine (M2.out _).mono ?_); rintro e wq ⟨rfl, bq⟩; have BQ : Hid (Below W.heap.size W wq) := Lib.hid (by refine Bgo ?_ bq; (repeat (first | (with_reducible exact BP.out) | (with_reducible refine Below.drew ?_) | (with_reducible refine Bal ?_ _)))); have SQ : Hid (wp.heap.size ≤ wq.heap.size) := Lib.hid (by first | (with_reducible exact bq.size) | (have t9 := bq.size; simp at t9; omega)); (first | (have RA2 : Hid (wq.heap[W.heap.size]? = some (.cells #[.int .u64 0, .int .u64 0, .int .u64 0, .int .u64 0] 156)) := Lib.hid (by first | (with_reducible exact blk_next bq RA.out) | (with_reducible exact blk_next (undrewB bq) RA.out) | (with_reducible exact blk_next bq (blk_alloc RA.out _)) | (with_reducible exact blk_next (undrewB bq) (blk_alloc RA.out _))); have ac0 := blk_cell RA2.out 0 _ rfl; have af0 := blk_frozen RA2.out 0; have ac1 := blk_cell RA2.out 1 _ rfl; have af1 := blk_frozen RA2.out 1; have ac2 := blk_cell RA2.out 2 _ rfl; have af2 := blk_frozen RA2.out 2; have ac3 := blk_cell RA2.out 3 _ rfl; have af3 := blk_frozen RA2.out 3; have al := blk_lt RA2.out) | skip); (first | (have RB2 : Hid (wq.heap[W.heap.size + 1]? = some (.cells #[.int .u64 0, .int .u64 0, .int .u64 0, .int .u64 0] 156)) := Lib.hid (by first | (with_reducible exact blk_next bq RB.out) | (with_reducible exact blk_next (undrewB bq) RB.out)); have bc0 := blk_cell RB2.out 0 _ rfl; have bf0 := blk_frozen RB2.out 0; have bc1 := blk_cell RB2.out 1 _ rfl; have bf1 := blk_frozen RB2.out 1; have bc2 := blk_cell RB2.out 2 _ rfl; have bf2 := blk_frozen RB2.out 2; have bc3 := blk_cell RB2.out 3 _ rfl; have bf3 := blk_frozen RB2.out 3; have bl := blk_lt RB2.out) | skip); (first | (have RC2 : Hid (wq.heap[wp.heap.size]? = some (.cells #[.int .u64 0, .int .u64 0, .int .u64 0, .int .u64 0] 156)) := Lib.hid (by first | (with_reducible exact blk_next bq (blk_new wp _)) | (with_reducible exact blk_next (undrewB bq) (blk_new wp _)) | (with_reducible exact blk_next bq (blk1 wp _ _)) | (with_reducible exact blk_next (undrewB bq) (blk1 wp _ _))); have cc0 := blk_cell RC2.out 0 _ rfl; have cf0 := blk_frozen RC2.out 0; have cc1 := blk_cell RC2.out 1 _ rfl; have cf1 := blk_frozen RC2.out 1; have cc2 := blk_cell RC2.out 2 _ rfl; have cf2 := blk_frozen RC2.out 2; have cc3 := blk_cell RC2.out 3 _ rfl; have cf3 := blk_frozen RC2.out 3; have cl := blk_lt RC2.out) | skip); (first | (have RD2 : Hid (wq.heap[wp.heap.size + 1]? = some (.cells #[.int .u64 0, .int .u64 0, .int .u64 0, .int .u64 0] 156)) := Lib.hid (by first | (with_reducible exact blk_next bq (blk2 wp _ _)) | (with_reducible exact blk_next (undrewB bq) (blk2 wp _ _))); have dc0 := blk_cell RD2.out 0 _ rfl; have df0 := blk_frozen RD2.out 0; have dc1 := blk_cell RD2.out 1 _ rfl; have df1 := blk_frozen RD2.out 1; have dc2 := blk_cell RD2.out 2 _ rfl; have df2 := blk_frozen RD2.out 2; have dc3 := blk_cell RD2.out 3 _ rfl; have df3 := blk_frozen RD2.out 3; have dl := blk_lt RD2.out) | skip); (first | (have nAC : ¬ W.heap.size = wp.heap.size := (by (have t8 := blk_lt RA.out; omega)); have nAC' : ¬ wp.heap.size = W.heap.size := (by (have t8 := blk_lt RA.out; omega))) | skip); (first | (have nBC : ¬ W.heap.size + 1 = wp.heap.size := (by (have t8 := blk_lt RB.out; omega)); have nBC' : ¬ wp.heap.size = W.heap.size + 1 := (by (have t8 := blk_lt RB.out; omega))) | skip); (first | (have nAD : ¬ W.heap.size = wp.heap.size + 1 := (by (have t8 := blk_lt RA.out; omega)); have nAD' : ¬ wp.heap.size + 1 = W.heap.size := (by (have t8 := blk_lt RA.out; omega))) | skip); (first | (have nAQ : ¬ W.heap.size = wq.heap.size := (by (have t8 := blk_lt RA2.out; omega)); have nAQ' : ¬ wq.heap.size = W.heap.size := (by (have t8 := blk_lt RA2.out; omega))) | skip); (first | (have nBQ : ¬ W.heap.size + 1 = wq.heap.size := (by (have t8 := blk_lt RB2.out; omega)); have nBQ' : ¬ wq.heap.size = W.heap.size + 1 := (by (have t8 := blk_lt RB2.out; omega))) | skip); (first | (have nCQ : ¬ wp.heap.size = wq.heap.size := (by (have t8 := blk_lt RC2.out; omega)); have nCQ' : ¬ wq.heap.size = wp.heap.size := (by (have t8 := blk_lt RC2.out; omega))) | skip); (first | (have nDQ : ¬ wp.heap.size + 1 = wq.heap.size := (by (have t8 := blk_lt RD2.out; omega)); have nDQ' : ¬ wq.heap.size = wp.heap.size + 1 := (by (have t8 := blk_lt RD2.out; omega))) | skip); clear bq))
   all_goals go_wp2_with fail
   all_goals go_meet
   all_goals (refine ⟨_, _, rfl, rfl, Lib.hid (K.out.next ?_), Lib.hid ?_, Lib.hid ?_⟩; (· (repeat (first | (with_reducible exact Below.refl _ _) | (with_reducible exact BQ.out) | (with_reducible exact BP.out) | (with_reducible refine Below.drew ?_) | (with_reducible refine Bal ?_ _) | (with_reducible refine Bset1 ?_ (by first | exact Nat.le_refl _ | exact Nat.le_succ _ | exact BP.out.size | exact Nat.le_succ_of_le BP.out.size | exact BQ.out.size | exact Nat.le_succ_of_le BQ.out.size | (simp; omega)) _ _)))); (· (first | (with_reducible exact blk_put4_other (blk_put4 RA2.out _ _ _ _) (by omega) _ _ _ _) | (with_reducible exact blk_dr (blk_put4_other (blk_put4 RA2.out _ _ _ _) (by omega) _ _ _ _)) | (with_reducible exact blk_put4_other (blk_put4 (blk_alloc RA2.out _) _ _ _ _) (by omega) _ _ _ _) | (with_reducible exact blk_dr (blk_put4_other (blk_put4 (blk_alloc RA2.out _) _ _ _ _) (by omega) _ _ _ _)) | (with_reducible exact blk_put4 (blk_alloc RA2.out _) _ _ _ _) | (with_reducible exact blk_dr (blk_put4 (blk_alloc RA2.out _) _ _ _ _)) | (with_reducible exact blk_alloc (blk_put4 RA2.out _ _ _ _) _) | (with_reducible exact blk_dr (blk_alloc (blk_put4 RA2.out _ _ _ _) _)) | (with_reducible exact blk_put4_other (blk_put4 RB2.out _ _ _ _) (by omega) _ _ _ _) | (with_reducible exact blk_dr (blk_put4_other (blk_put4 RB2.out _ _ _ _) (by omega) _ _ _ _)) | (with_reducible exact blk_put4_other (blk_put4 (blk_alloc RB2.out _) _ _ _ _) (by omega) _ _ _ _) | (with_reducible exact blk_dr (blk_put4_other (blk_put4 (blk_alloc RB2.out _) _ _ _ _) (by omega) _ _ _ _)) | (with_reducible exact blk_put4 (blk_alloc RB2.out _) _ _ _ _) | (with_reducible exact blk_dr (blk_put4 (blk_alloc RB2.out _) _ _ _ _)) | (with_reducible exact blk_alloc (blk_put4 RB2.out _ _ _ _) _) | (with_reducible exact blk_dr (blk_alloc (blk_put4 RB2.out _ _ _ _) _)) | (with_reducible exact blk_put4_other (blk_put4 RC2.out _ _ _ _) (by omega) _ _ _ _) | (with_reducible exact blk_dr (blk_put4_other (blk_put4 RC2.out _ _ _ _) (by omega) _ _ _ _)) | (with_reducible exact blk_put4_other (blk_put4 (blk_alloc RC2.out _) _ _ _ _) (by omega) _ _ _ _) | (with_reducible exact blk_dr (blk_put4_other (blk_put4 (blk_alloc RC2.out _) _ _ _ _) (by omega) _ _ _ _)) | (with_reducible exact blk_put4 (blk_alloc RC2.out _) _ _ _ _) | (with_reducible exact blk_dr (blk_put4 (blk_alloc RC2.out _) _ _ _ _)) | (with_reducible exact blk_alloc (blk_put4 RC2.out _ _ _ _) _) | (with_reducible exact blk_dr (blk_alloc (blk_put4 RC2.out _ _ _ _) _)) | (with_reducible exact blk_put4_other (blk_put4 RD2.out _ _ _ _) (by omega) _ _ _ _) | (with_reducible exact blk_dr (blk_put4_other (blk_put4 RD2.out _ _ _ _) (by omega) _ _ _ _)) | (with_reducible exact blk_put4_other (blk_put4 (blk_alloc RD2.out _) _ _ _ _) (by omega) _ _ _ _) | (with_reducible exact blk_dr (blk_put4_other (blk_put4 (blk_alloc RD2.out _) _ _ _ _) (by omega) _ _ _ _)) | (with_reducible exact blk_put4 (blk_alloc RD2.out _) _ _ _ _) | (with_reducible exact blk_dr (blk_put4 (blk_alloc RD2.out _) _ _ _ _)) | (with_reducible exact blk_alloc (blk_put4 RD2.out _ _ _ _) _) | (with_reducible exact blk_dr (blk_alloc (blk_put4 RD2.out _ _ _ _) _)) | (with_reducible exact blk_put4_other (blk_new wq _) (by omega) _ _ _ _) | (with_reducible exact blk_dr (blk_put4_other (blk_new wq _) (by omega) _ _ _ _)) | (with_reducible exact blk1 wq _ _) | (with_reducible exact blk_dr (blk1 wq _ _)) | (with_reducible exact blk2 wq _ _) | (with_reducible exact blk_dr (blk2 wq _ _)) | (with_reducible exact blk_at _ (sz4 _ _ _ _ _ _).symm) | (with_reducible exact blk_dr (blk_at _ (sz4 _ _ _ _ _ _).symm)))); (· (first | (with_reducible exact blk_put4 (blk_put4_other RA2.out (by omega) _ _ _ _) _ _ _ _) | (with_reducible exact blk_dr (blk_put4 (blk_put4_other RA2.out (by omega) _ _ _ _) _ _ _ _)) | (with_reducible exact blk_put4 (blk_alloc RA2.out _) _ _ _ _) | (with_reducible exact blk_dr (blk_put4 (blk_alloc RA2.out _) _ _ _ _)) | (with_reducible exact blk_put4 (blk_put4_other RB2.out (by omega) _ _ _ _) _ _ _ _) | (with_reducible exact blk_dr (blk_put4 (blk_put4_other RB2.out (by omega) _ _ _ _) _ _ _ _)) | (with_reducible exact blk_put4 (blk_alloc RB2.out _) _ _ _ _) | (with_reducible exact blk_dr (blk_put4 (blk_alloc RB2.out _) _ _ _ _)) | (with_reducible exact blk_put4 (blk_put4_other RC2.out (by omega) _ _ _ _) _ _ _ _) | (with_reducible exact blk_dr (blk_put4 (blk_put4_other RC2.out (by omega) _ _ _ _) _ _ _ _)) | (with_reducible exact blk_put4 (blk_alloc RC2.out _) _ _ _ _) | (with_reducible exact blk_dr (blk_put4 (blk_alloc RC2.out _) _ _ _ _)) | (with_reducible exact blk_put4 (blk_put4_other RD2.out (by omega) _ _ _ _) _ _ _ _) | (with_reducible exact blk_dr (blk_put4 (blk_put4_other RD2.out (by omega) _ _ _ _) _ _ _ _)) | (with_reducible exact blk_put4 (blk_alloc RD2.out _) _ _ _ _) | (with_reducible exact blk_dr (blk_put4 (blk_alloc RD2.out _) _ _ _ _)) | (with_reducible exact blk_put4 (blk_put4_other (blk_new wq _) (by omega) _ _ _ _) _ _ _ _) | (with_reducible exact blk_dr (blk_put4 (blk_put4_other (blk_new wq _) (by omega) _ _ _ _) _ _ _ _)) | (with_reducible exact blk_put4_other (blk_new wq _) (by omega) _ _ _ _) | (with_reducible exact blk_dr (blk_put4_other (blk_new wq _) (by omega) _ _ _ _)) | (with_reducible exact blk_new _ _) | (with_reducible exact blk_dr (blk_new _ _)) | (with_reducible exact blk1 wq _ _) | (with_reducible exact blk_dr (blk1 wq _ _)) | (with_reducible exact blk2 wq _ _) | (with_reducible exact blk_dr (blk2 wq _ _)) | (with_reducible exact blk_at _ (sz4 _ _ _ _ _ _).symm) | (with_reducible exact blk_dr (blk_at _ (sz4 _ _ _ _ _ _).symm)) | (with_reducible exact blk_alloc (blk_put4 RA2.out _ _ _ _) _) | (with_reducible exact blk_dr (blk_alloc (blk_put4 RA2.out _ _ _ _) _)) | (with_reducible exact blk_alloc (blk_put4 RB2.out _ _ _ _) _) | (with_reducible exact blk_dr (blk_alloc (blk_put4 RB2.out _ _ _ _) _)) | (with_reducible exact blk_alloc (blk_put4 RC2.out _ _ _ _) _) | (with_reducible exact blk_dr (blk_alloc (blk_put4 RC2.out _ _ _ _) _)) | (with_reducible exact blk_alloc (blk_put4 RD2.out _ _ _ _) _) | (with_reducible exact blk_dr (blk_alloc (blk_put4 RD2.out _ _ _ _) _)))))
  case rest =>
   obtain ⟨g5, g6, rfl, rfl, K2, B5, B6⟩ := hcut
   have a0 := blk_cell K2.out.a 0 _ rfl
   have u0 := blk_cell B5.out 0 _ rfl
   have u1 := blk_cell B5.out 1 _ rfl
   have u2 := blk_cell B5.out 2 _ rfl
   have u3 := blk_cell B5.out 3 _ rfl
   have v0 := blk_cell B6.out 0 _ rfl
   have v1 := blk_cell B6.out 1 _ rfl
   have v2 := blk_cell B6.out 2 _ rfl
   have v3 := blk_cell B6.out 3 _ rfl
   have l5 := blk_lt B5.out
   have l6 := blk_lt B6.out
   by_cases c1 : an < 0
   ·have FE : Hid (res = decide (Q < P)) := Lib.hid (by have := SG.out; rw [if_pos c1] at this; exact this)
    go_wp2_with fail
    refine (BC2.out _).mono ?_
    rintro e w9 ⟨rfl, hb⟩
    go_wp2_with fail
    go_ret
    exact ⟨ret_bool FE.out.symm, Bgo K2.out.n hb⟩
   ·have FE : Hid (res = decide (P < Q)) := Lib.hid (by have := SG.out; rw [if_neg c1] at this; exact this)
    go_wp2_with fail
    refine (BC1.out _).mono ?_
    rintro e w9 ⟨rfl, hb⟩
    go_wp2_with fail
    go_ret
    exact ⟨ret_bool FE.out.symm, Bgo K2.out.n hb⟩
 ·have RS : decide (xi < yi) = decide (an < 0) := by
   by_cases c1 : an < 0
   ·have c2 : ¬ bn < 0 := fun c2 => cs (by rw [decide_eq_true c1, decide_eq_true c2])
    have := nn1 c1
    have := nn4 (by omega)
    rw [decide_eq_true c1]; exact decide_eq_true (by omega)
   ·have c2 : bn < 0 := by
     by_cases c2 : bn < 0
     ·exact c2
     ·exact absurd (by rw [decide_eq_false c1, decide_eq_false c2]) cs
    have := nn2 (by omega)
    have := nn3 c2
    rw [decide_eq_false c1]; exact decide_eq_false (by omega)
  rw [RS]
  have cs' : (decide (an < 0) == decide (bn < 0)) = false := by rw [beq_eq_false_iff_ne]; exact cs
  clear A1 A2 nn1 nn2 nn3 nn4 cs RS BC1 BC2
  go_enter Tryz.func114, Tryz.ntmps114
  go_wp2_with fail
  go_ret
  exact ⟨rfl, Bal (Bal (Below.refl _ _) _) _⟩
end Go.Proofs.YtfangplfbbgphaaGreatDoor
