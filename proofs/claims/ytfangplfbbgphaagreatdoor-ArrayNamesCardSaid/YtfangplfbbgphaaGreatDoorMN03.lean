/- Several texts in one. -/
import Derived.Deep.DeepCutAuto
import Derived.Deep.CutBlock
import Derived.Lib.Strings
import Derived.Lib.Slices
import Derived.Lib.Small
import Derived.Lib.Walk
import Derived.Lib.BitFns
import Derived.Test.YtfangplfbbgphaaGreatDoorMN00
import Derived.Test.YtfangplfbbgphaaGreatDoorMN01
import Derived.Test.YtfangplfbbgphaaGreatDoorMN02
namespace Go.Proofs.YtfangplfbbgphaaGreatDoor
open Go.ChangeShapes Go.WideShapes Go.ChangeAt Go.RowKit
set_option linter.unusedVariables false
set_option maxRecDepth 100000
attribute [local go_sem ↓] Go.wp_at_zero Go.wp_at_succ
theorem bitLen_pow : ∀ (n x : Nat), x < 2 ^ n → 0 < x → n ≤ 64 → 2 ^ (Lib.bitLen x - 1) ≤ x ∧ x < 2 ^ Lib.bitLen x := by
 intro n
 induction n with
 | zero => intro x h h0 _; simp at h; omega
 | succ n ih =>
  intro x h h0 hn
  have h64 : x < 2 ^ 64 := Nat.lt_of_lt_of_le h (Nat.pow_le_pow_right (by decide) hn)
  rw [Lib.bitLen_half x (by omega) h64]
  by_cases c : x / 2 = 0
  ·rw [c]
   have : Lib.bitLen 0 = 0 := by decide
   rw [this]; simp; omega
  ·obtain ⟨a, b⟩ := ih (x / 2) (by rw [Nat.pow_succ] at h; omega) (by omega) (by omega)
   have p : 1 ≤ Lib.bitLen (x / 2) := by
    rcases Nat.eq_zero_or_pos (Lib.bitLen (x / 2)) with e | e
    ·rw [e] at b; simp at b; omega
    ·exact e
   rw [show 1 + Lib.bitLen (x / 2) - 1 = (Lib.bitLen (x / 2) - 1) + 1 by omega, show 1 + Lib.bitLen (x / 2) = Lib.bitLen (x / 2) + 1 by omega, Nat.pow_succ, Nat.pow_succ]
   omega
theorem lead {y : Nat} (h0 : 0 < y) (h : y < 18446744073709551616) : ∃ s : Nat, s ≤ 63 ∧ 64 - (Lib.bitLen y : Int) = (s : Int) ∧ y * 2 ^ s < 18446744073709551616 ∧ 9223372036854775808 ≤ y * 2 ^ s := by
 obtain ⟨a, b⟩ := bitLen_pow 64 y h h0 (by omega)
 have l := bitLen_le64 (y : Int) (by omega) (by omega)
 rw [Int.toNat_natCast] at l
 have p : 1 ≤ Lib.bitLen y := by
  rcases Nat.eq_zero_or_pos (Lib.bitLen y) with e | e
  ·rw [e] at b; simp at b; omega
  ·exact e
 refine ⟨64 - Lib.bitLen y, by omega, by omega, ?_, ?_⟩
 ·have : 18446744073709551616 = 2 ^ Lib.bitLen y * 2 ^ (64 - Lib.bitLen y) := by rw [← Nat.pow_add, show Lib.bitLen y + (64 - Lib.bitLen y) = 64 by omega]
  rw [this]; exact Nat.mul_lt_mul_of_pos_right b (Nat.two_pow_pos _)
 ·have : 9223372036854775808 = 2 ^ (Lib.bitLen y - 1) * 2 ^ (64 - Lib.bitLen y) := by rw [← Nat.pow_add, show Lib.bitLen y - 1 + (64 - Lib.bitLen y) = 63 by omega]
  rw [this]; exact Nat.mul_le_mul_right _ a
theorem or_shift {a b s : Nat} (h : b < 2 ^ s) (h64 : a * 2 ^ s + b < 18446744073709551616) : bits .or .u64 ((a * 2 ^ s : Nat) : Int) (b : Int) = ((a * 2 ^ s + b : Nat) : Int) := by
 have e := u64_or_nat (a * 2 ^ s) b (by omega) (by omega)
 rw [e, Nat.mul_comm a, Nat.two_pow_add_eq_or_of_lt h]
set_option maxRecDepth 100000 in
set_option maxHeartbeats 4000000 in
theorem div64_calls (hi lo y : Nat) (w : World) (h1 : hi < y) (h2 : y < 18446744073709551616) (h3 : lo < 18446744073709551616) :
  Calls Tryz.prog 107 #[.int .u64 hi, .int .u64 lo, .int .u64 y] w fun e w' => e = .returned (.tuple #[.int .u64 ((hi * 18446744073709551616 + lo) / y : Nat), .int .u64 ((hi * 18446744073709551616 + lo) % y : Nat)]) ∧ ∃ m, w' = w.drewN m := by
 have yn : ¬ y = 0 := by omega
 by_cases c0 : hi = 0
 ·subst c0
  have a3 : IntKind.u64.wrap ((lo : Int) / (y : Int)) = (lo : Int) / (y : Int) := by
   rw [← Int.natCast_ediv]; exact wrapN _ (Nat.lt_of_le_of_lt (Nat.div_le_self _ _) h3)
  have z : 0 * 18446744073709551616 + lo = lo := by omega
  rw [z, Int.natCast_ediv, Int.natCast_emod]
  clear z
  go_enter Tryz.func107, Tryz.ntmps107
  go_wp2_with fail
  go_quiet (fail)
  go_wp2_with fail
  go_ret2
  exact ⟨rfl, _, rfl⟩
 obtain ⟨s, s1, s2, s3, s4⟩ := lead (by omega) h2
 have LZ := Lib.hid (fun W => leading_calls (y : Int) W (by omega) (by omega))
 simp only [Int.toNat_natCast] at LZ
 rw [s2] at LZ
 have y1 : 0 < y := by omega
 have pw : 0 < 2 ^ s := Nat.two_pow_pos s
 have pd : 2 ^ s ∣ 18446744073709551616 := ⟨2 ^ (64 - s), by rw [← Nat.pow_add, show s + (64 - s) = 64 by omega]⟩
 have p64 : 18446744073709551616 / 2 ^ s = 2 ^ (64 - s) := by rw [show 18446744073709551616 = 2 ^ s * 2 ^ (64 - s) by rw [← Nat.pow_add, show s + (64 - s) = 64 by omega], Nat.mul_div_cancel_left _ pw]
 have MV := Dv.moved (hi := hi) (lo := lo) (y := y) pd h3
 rw [p64] at MV
 obtain ⟨BK1, BK2⟩ := Dv.back (N := hi * 18446744073709551616 + lo) (y := y) (s := s)
 rw [← MV] at BK1 BK2
 have l1 : lo / 2 ^ (64 - s) < 2 ^ s := (Nat.div_lt_iff_lt_mul (Nat.two_pow_pos _)).2 (by rw [← Nat.pow_add, show s + (64 - s) = 64 by omega]; exact h3)
 have hl : (hi + 1) * 2 ^ s ≤ y * 2 ^ s := Nat.mul_le_mul_right _ (by omega)
 rw [Nat.add_mul, Nat.one_mul] at hl
 have e6 := or_shift (a := hi) l1 (by omega)
 have e1 : IntKind.u64.wrap ((y : Int) * 2 ^ s) = ((y * 2 ^ s : Nat) : Int) := by
  have := wrapN (y * 2 ^ s) s3
  rw [Int.natCast_mul, Int.natCast_pow] at this
  rw [Int.natCast_mul, Int.natCast_pow]; exact this
 have e4 : IntKind.u64.wrap ((hi : Int) * 2 ^ s) = ((hi * 2 ^ s : Nat) : Int) := by
  have := wrapN (hi * 2 ^ s) (by omega)
  rw [Int.natCast_mul, Int.natCast_pow] at this
  rw [Int.natCast_mul, Int.natCast_pow]; exact this
 have e5 : (lo : Int) / 2 ^ (64 - s) = ((lo / 2 ^ (64 - s) : Nat) : Int) := by rw [Int.natCast_ediv, Int.natCast_pow]; rfl
 have e7 : IntKind.u64.wrap ((lo : Int) * 2 ^ s) = ((lo * 2 ^ s % 18446744073709551616 : Nat) : Int) := by
  rw [IntKind.wrap_u64, Int.natCast_emod, Int.natCast_mul, Int.natCast_pow]; rfl
 have u2 : hi * 2 ^ s + lo / 2 ^ (64 - s) < y * 2 ^ s := by omega
 have v2 : lo * 2 ^ s % 18446744073709551616 < 18446744073709551616 := Nat.mod_lt _ (by decide)
 clear l1 hl MV p64 pd
 generalize hi * 2 ^ s = H at *
 generalize lo / 2 ^ (64 - s) = L at *
 generalize lo * 2 ^ s % 18446744073709551616 = V at *
 obtain ⟨U, hU⟩ : ∃ U, H + L = U := ⟨_, rfl⟩
 rw [hU] at e6 u2 BK1 BK2
 clear hU
 obtain ⟨Y, hY⟩ : ∃ Y, y * 2 ^ s = Y := ⟨_, rfl⟩
 rw [hY] at e1 s3 s4 u2 BK1 BK2
 have HY := Lib.hid hY
 clear hY
 have yd := Nat.div_add_mod Y 4294967296
 have vd := Nat.div_add_mod V 4294967296
 have e2 : (Y : Int) / 4294967296 = ((Y / 4294967296 : Nat) : Int) := (Int.natCast_ediv Y 4294967296).symm
 have e3 := and32 Y s3
 have e8 : (V : Int) / 4294967296 = ((V / 4294967296 : Nat) : Int) := (Int.natCast_ediv V 4294967296).symm
 have e9 := and32 V v2
 have b1 : Y / 4294967296 < 4294967296 := by omega
 have b2 : 2147483648 ≤ Y / 4294967296 := by omega
 have b3 : Y % 4294967296 < 4294967296 := by omega
 have b4 : V / 4294967296 < 4294967296 := by omega
 have b5 : V % 4294967296 < 4294967296 := by omega
 generalize Y / 4294967296 = d1 at *
 generalize Y % 4294967296 = d0 at *
 generalize V / 4294967296 = u1 at *
 generalize V % 4294967296 = u0 at *
 have dn : ¬ d1 = 0 := by omega
 have EY : Hid (Y = d1 * 4294967296 + d0) := Lib.hid (by omega)
 have EV : Hid (V = u1 * 4294967296 + u0) := Lib.hid (by omega)
 clear yd vd
 have t1 := tdivN U d1
 have q1 : U / d1 ≤ U := Nat.div_le_self _ _
 have q2 := Nat.div_add_mod U d1
 have q3 : U % d1 < d1 := Nat.mod_lt _ (by omega)
 have g0 := Lib.hid (Dv.start (U := U) (u1 := u1) (d1 := d1) (d0 := d0) (by omega) b4)
 have t2 : IntKind.u64.wrap ((U / d1 : Nat) : Int) = ((U / d1 : Nat) : Int) := wrapN _ (by omega)
 have t3 : IntKind.u64.wrap (((U / d1 : Nat) : Int) * (d1 : Int)) = ((d1 * (U / d1) : Nat) : Int) := by
  rw [← Int.natCast_mul, Nat.mul_comm]; exact wrapN _ (by omega)
 have t4 : IntKind.u64.wrap ((U : Int) - ((d1 * (U / d1) : Nat) : Int)) = ((U % d1 : Nat) : Int) := by
  rw [show (U : Int) - ((d1 * (U / d1) : Nat) : Int) = ((U % d1 : Nat) : Int) by omega]; exact wrapN _ (by omega)
 generalize d1 * (U / d1) = z0 at *
 generalize U / d1 = Q0 at *
 generalize U % d1 = R0 at *
 clear s2
 go_enter Tryz.func107, Tryz.ntmps107
 go_wp2_with fail
 refine (LZ.out _).mono ?_
 rintro e w1 ⟨rfl, rfl⟩
 have Q0b : Q0 < 18446744073709551616 := by omega
 have R0b : R0 < 4294967296 := by omega
 obtain ⟨Q, hQ⟩ : ∃ Q, (U * 4294967296 + u1) / (d1 * 4294967296 + d0) = Q := ⟨_, rfl⟩
 have EY2 := EY.out
 have u3 : U < d1 * 4294967296 + d0 := by omega
 have U0 := Lib.hid u3
 have HQ : Hid ((U * 4294967296 + u1) / (d1 * 4294967296 + d0) = Q) := Lib.hid hQ
 have QT : Q < 4294967296 := by rw [← hQ]; exact Dv.top u3 b4
 have D0 : Hid (0 < d1) := Lib.hid (by omega)
 have QL0 := Dv.left (M := U * 4294967296 + u1) (y := d1 * 4294967296 + d0)
 rw [hQ] at QL0
 have QL := Lib.hid QL0
 clear QL0
 have K1 := Lib.hid BK1
 have K2 := Lib.hid BK2
 have S3 := Lib.hid s3
 have U2 := Lib.hid u2
 have V2 := Lib.hid v2
 clear hQ EY2 u3 BK1 BK2 q3 s4 s3 u2 v2 q2
 go_upto_block 0 with fail
 clear LZ t1 t2 t3 t4 e1 e2 e3 e4 e5 e6 e7 e8 e9 q1 HY
 go_cut [15, 16] from 67 to 85 (fun s15 s16 wx => s15 = .int .u64 Q ∧ (∃ r : Nat, s16 = .int .u64 r) ∧ wx = w1)
 case first =>
  go_wp2_with fail
  go_loopw [15, 16] (fun q r wr => ∃ q' r' : Nat, q = .int .u64 q' ∧ r = .int .u64 r' ∧ wr = w1 ∧ q' < 18446744073709551616 ∧ r' < 4294967296 ∧ Hid (Dv.G U u1 d1 d0 q' r')) (fun q _ _ => (intOf q).toNat)
  case atStart => exact ⟨Q0, R0, rfl, rfl, rfl, by omega, by omega, g0⟩
  case round =>
   obtain ⟨q, r, rfl, rfl, rfl, hq, hr, g⟩ := hrel
   clear g0
   obtain ⟨q2, hq2⟩ : ∃ q2, q - 1 = q2 := ⟨_, rfl⟩
   obtain ⟨r2, hr2⟩ : ∃ r2, r + d1 = r2 := ⟨_, rfl⟩
   have f2 : IntKind.u64.wrap ((r : Int) + (d1 : Int)) = (r2 : Int) := by
    rw [show (r : Int) + (d1 : Int) = (r2 : Int) by omega]; exact wrapN _ (by omega)
   by_cases c1 : 4294967296 ≤ q
   ·obtain ⟨q1, g'⟩ := g.out.down D0.out U0.out b4 (.inl c1)
    rw [hq2, hr2] at g'
    have G' := Lib.hid g'
    clear g g'
    have f1 : IntKind.u64.wrap ((q : Int) - 1) = (q2 : Int) := by
     rw [show (q : Int) - 1 = (q2 : Int) by omega]; exact wrapN _ (by omega)
    have ql : q2 < q := by omega
    have qb : q2 < 18446744073709551616 := by omega
    clear hq2 q1
    by_cases c3 : 4294967296 ≤ r2
    ·have DN := Lib.hid ((G'.out.done2 D0.out U0.out b3 c3).trans HQ.out)
     clear hr2
     have C1 := Lib.hid c1
     have kd : decide ((4294967296 : Int) ≤ (q : Int)) = true := decide_eq_true (by omega)
     have C3 := Lib.hid c3
     have ke : decide ((4294967296 : Int) ≤ (r2 : Int)) = true := decide_eq_true (by omega)
     clear c1 c3
     go_wp2_with fail
     go_meet
     exact ⟨by rw [DN.out], ⟨_, rfl⟩, by first | rfl | trivial⟩
    ·clear hr2
     have C1 := Lib.hid c1
     have kd : decide ((4294967296 : Int) ≤ (q : Int)) = true := decide_eq_true (by omega)
     have C3 := Lib.hid c3
     have ke : decide ((4294967296 : Int) ≤ (r2 : Int)) = false := decide_eq_false (by omega)
     clear c1 c3
     go_wp2_with fail
     exact ⟨⟨q2, r2, rfl, rfl, by first | rfl | trivial, qb, by have := C3.out; omega, G'⟩, by simp [intOf]; omega⟩
   ·obtain ⟨m1, hm1⟩ : ∃ m1, q * d0 = m1 := ⟨_, rfl⟩
    have m1b : m1 < 18446744073709551616 := by
     rw [← hm1]; exact Nat.lt_of_le_of_lt (Nat.mul_le_mul (show q ≤ 4294967295 by omega) (show d0 ≤ 4294967295 by omega)) (by decide)
    have f3 : IntKind.u64.wrap ((q : Int) * (d0 : Int)) = (m1 : Int) := by
     rw [← Int.natCast_mul, hm1]; exact wrapN _ m1b
    obtain ⟨m2, hm2⟩ : ∃ m2, 4294967296 * r = m2 := ⟨_, rfl⟩
    have f4 : IntKind.u64.wrap (4294967296 * (r : Int)) = (m2 : Int) := by
     rw [show 4294967296 * (r : Int) = (m2 : Int) by omega]; exact wrapN _ (by omega)
    obtain ⟨m3, hm3⟩ : ∃ m3, m2 + u1 = m3 := ⟨_, rfl⟩
    have f5 : IntKind.u64.wrap ((m2 : Int) + (u1 : Int)) = (m3 : Int) := by
     rw [show (m2 : Int) + (u1 : Int) = (m3 : Int) by omega]; exact wrapN _ (by omega)
    by_cases c4 : m3 < m1
    ·obtain ⟨q1, g'⟩ := g.out.down D0.out U0.out b4 (.inr (by rw [hm1]; omega))
     rw [hq2, hr2] at g'
     have G' := Lib.hid g'
     clear g g'
     have f1 : IntKind.u64.wrap ((q : Int) - 1) = (q2 : Int) := by
      rw [show (q : Int) - 1 = (q2 : Int) by omega]; exact wrapN _ (by omega)
     have ql : q2 < q := by omega
     have qb : q2 < 18446744073709551616 := by omega
     clear hq2 q1 hm1 hm2 hm3 m1b
     by_cases c3 : 4294967296 ≤ r2
     ·have DN := Lib.hid ((G'.out.done2 D0.out U0.out b3 c3).trans HQ.out)
      clear hr2
      have C1 := Lib.hid c1
      have kd : decide ((4294967296 : Int) ≤ (q : Int)) = false := decide_eq_false (by omega)
      have C3 := Lib.hid c3
      have ke : decide ((4294967296 : Int) ≤ (r2 : Int)) = true := decide_eq_true (by omega)
      clear c1 c3
      go_wp2_with fail
      go_meet
      exact ⟨by rw [DN.out], ⟨_, rfl⟩, by first | rfl | trivial⟩
     ·clear hr2
      have C1 := Lib.hid c1
      have kd : decide ((4294967296 : Int) ≤ (q : Int)) = false := decide_eq_false (by omega)
      have C3 := Lib.hid c3
      have ke : decide ((4294967296 : Int) ≤ (r2 : Int)) = false := decide_eq_false (by omega)
      clear c1 c3
      go_wp2_with fail
      exact ⟨⟨q2, r2, rfl, rfl, by first | rfl | trivial, qb, by have := C3.out; omega, G'⟩, by simp [intOf]; omega⟩
    ·have DN := Lib.hid ((g.out.done1 D0.out (by rw [hm1]; omega)).trans HQ.out)
     clear hq2 hm1 hm2 hm3 m1b hr2 g
     have C1 := Lib.hid c1
     have kd : decide ((4294967296 : Int) ≤ (q : Int)) = false := decide_eq_false (by omega)
     clear c1
     go_wp2_with fail
     go_meet
     exact ⟨by rw [DN.out], ⟨_, rfl⟩, by first | rfl | trivial⟩
 case rest =>
  obtain ⟨rfl, ⟨r9, rfl⟩, rfl⟩ := hcut
  clear g0 Q0b R0b
  have s3 := S3.out
  have u2 := U2.out
  have qM : Q * Y ≤ U * 4294967296 + u1 := by rw [EY.out, ← HQ.out]; exact Nat.div_mul_le_self _ _
  have BT := Dv.both (M := U * 4294967296 + u1) (u0 := u0) (y := Y) (by omega)
  obtain ⟨UU, hUU⟩ : ∃ UU, (U * 4294967296 + u1) % Y = UU := ⟨_, rfl⟩
  have uM : U * 4294967296 + u1 - Q * Y = UU := by have := QL.out; rw [← EY.out] at this; rw [this, hUU]
  have uu2 : UU < Y := by rw [← hUU]; exact Nat.mod_lt _ (by omega)
  rw [hUU, show (U * 4294967296 + u1) / Y = Q by rw [EY.out]; exact HQ.out, show (U * 4294967296 + u1) * 4294967296 + u0 = U * 18446744073709551616 + V by rw [EV.out]; grind, K1.out] at BT
  have UU0 : Hid (UU < d1 * 4294967296 + d0) := Lib.hid (by rw [← EY.out]; exact uu2)
  have a1 : IntKind.u64.wrap ((U : Int) * 4294967296) = ((U * 4294967296 % 18446744073709551616 : Nat) : Int) := by
   rw [IntKind.wrap_u64, Int.natCast_emod, Int.natCast_mul]; rfl
  have a2 : IntKind.u64.wrap (((U * 4294967296 % 18446744073709551616 : Nat) : Int) + (u1 : Int)) = (((U * 4294967296 + u1) % 18446744073709551616 : Nat) : Int) := by
   rw [IntKind.wrap_u64]; omega
  have a3 : IntKind.u64.wrap ((Q : Int) * (Y : Int)) = ((Q * Y % 18446744073709551616 : Nat) : Int) := by
   rw [IntKind.wrap_u64, Int.natCast_emod, Int.natCast_mul]; rfl
  have a4 : IntKind.u64.wrap ((((U * 4294967296 + u1) % 18446744073709551616 : Nat) : Int) - ((Q * Y % 18446744073709551616 : Nat) : Int)) = (UU : Int) := by
   rw [IntKind.wrap_u64]
   generalize Q * Y = QY at *
   omega
  obtain ⟨A1, hA1⟩ : ∃ A1, U * 4294967296 % 18446744073709551616 = A1 := ⟨_, rfl⟩
  obtain ⟨A2, hA2⟩ : ∃ A2, (U * 4294967296 + u1) % 18446744073709551616 = A2 := ⟨_, rfl⟩
  obtain ⟨A3, hA3⟩ : ∃ A3, Q * Y % 18446744073709551616 = A3 := ⟨_, rfl⟩
  rw [hA1] at a1 a2
  rw [hA2] at a2 a4
  rw [hA3] at a3 a4
  clear hA1 hA2 hA3
  have t1 := tdivN UU d1
  have q1 : UU / d1 ≤ UU := Nat.div_le_self _ _
  have q2 := Nat.div_add_mod UU d1
  have q3 : UU % d1 < d1 := Nat.mod_lt _ D0.out
  have gg0 := Lib.hid (Dv.start (U := UU) (u1 := u0) (d1 := d1) (d0 := d0) D0.out b5)
  have t2 : IntKind.u64.wrap ((UU / d1 : Nat) : Int) = ((UU / d1 : Nat) : Int) := wrapN _ (by omega)
  have t3 : IntKind.u64.wrap (((UU / d1 : Nat) : Int) * (d1 : Int)) = ((d1 * (UU / d1) : Nat) : Int) := by
   rw [← Int.natCast_mul, Nat.mul_comm]; exact wrapN _ (by omega)
  have t4 : IntKind.u64.wrap ((UU : Int) - ((d1 * (UU / d1) : Nat) : Int)) = ((UU % d1 : Nat) : Int) := by
   rw [show (UU : Int) - ((d1 * (UU / d1) : Nat) : Int) = ((UU % d1 : Nat) : Int) by omega]; exact wrapN _ (by omega)
  generalize d1 * (UU / d1) = zz0 at *
  generalize UU / d1 = QQ0 at *
  generalize UU % d1 = RR0 at *
  have Q0b : QQ0 < 18446744073709551616 := by omega
  have R0b : RR0 < 4294967296 := by omega
  obtain ⟨QQ, hQQ⟩ : ∃ QQ, (UU * 4294967296 + u0) / (d1 * 4294967296 + d0) = QQ := ⟨_, rfl⟩
  have HQQ : Hid ((UU * 4294967296 + u0) / (d1 * 4294967296 + d0) = QQ) := Lib.hid hQQ
  have QQT : QQ < 4294967296 := by rw [← hQQ]; exact Dv.top UU0.out b5
  have HUU := Lib.hid uu2
  have BTH := Lib.hid BT
  clear hQQ hUU uM qM q2 q3 s3 u2 uu2 BT
  go_upto_block 2 with fail
  clear a1 a2 a3 a4 t1 t2 t3 t4 q1
  go_cut [18, 16] from 102 to 120 (fun s18 s16 wx => s18 = .int .u64 QQ ∧ (∃ r : Nat, s16 = .int .u64 r) ∧ wx = wc)
  case first =>
   go_wp2_with fail
   go_loopw [18, 16] (fun q r wr => ∃ q' r' : Nat, q = .int .u64 q' ∧ r = .int .u64 r' ∧ wr = wc ∧ q' < 18446744073709551616 ∧ r' < 4294967296 ∧ Hid (Dv.G UU u0 d1 d0 q' r')) (fun q _ _ => (intOf q).toNat)
   case atStart => exact ⟨QQ0, RR0, rfl, rfl, rfl, by omega, by omega, gg0⟩
   case round =>
    obtain ⟨q, r, rfl, rfl, rfl, hq, hr, g⟩ := hrel
    clear gg0
    obtain ⟨q2, hq2⟩ : ∃ q2, q - 1 = q2 := ⟨_, rfl⟩
    obtain ⟨r2, hr2⟩ : ∃ r2, r + d1 = r2 := ⟨_, rfl⟩
    have f2 : IntKind.u64.wrap ((r : Int) + (d1 : Int)) = (r2 : Int) := by
     rw [show (r : Int) + (d1 : Int) = (r2 : Int) by omega]; exact wrapN _ (by omega)
    by_cases c1 : 4294967296 ≤ q
    ·obtain ⟨q1, g'⟩ := g.out.down D0.out UU0.out b5 (.inl c1)
     rw [hq2, hr2] at g'
     have G' := Lib.hid g'
     clear g g'
     have f1 : IntKind.u64.wrap ((q : Int) - 1) = (q2 : Int) := by
      rw [show (q : Int) - 1 = (q2 : Int) by omega]; exact wrapN _ (by omega)
     have ql : q2 < q := by omega
     have qb : q2 < 18446744073709551616 := by omega
     clear hq2 q1
     by_cases c3 : 4294967296 ≤ r2
     ·have DN := Lib.hid ((G'.out.done2 D0.out UU0.out b3 c3).trans HQQ.out)
      clear hr2
      have C1 := Lib.hid c1
      have kd : decide ((4294967296 : Int) ≤ (q : Int)) = true := decide_eq_true (by omega)
      have C3 := Lib.hid c3
      have ke : decide ((4294967296 : Int) ≤ (r2 : Int)) = true := decide_eq_true (by omega)
      clear c1 c3
      go_wp2_with fail
      go_meet
      exact ⟨by rw [DN.out], ⟨_, rfl⟩, by first | rfl | trivial⟩
     ·clear hr2
      have C1 := Lib.hid c1
      have kd : decide ((4294967296 : Int) ≤ (q : Int)) = true := decide_eq_true (by omega)
      have C3 := Lib.hid c3
      have ke : decide ((4294967296 : Int) ≤ (r2 : Int)) = false := decide_eq_false (by omega)
      clear c1 c3
      go_wp2_with fail
      exact ⟨⟨q2, r2, rfl, rfl, by first | rfl | trivial, qb, by have := C3.out; omega, G'⟩, by simp [intOf]; omega⟩
    ·obtain ⟨m1, hm1⟩ : ∃ m1, q * d0 = m1 := ⟨_, rfl⟩
     have m1b : m1 < 18446744073709551616 := by
      rw [← hm1]; exact Nat.lt_of_le_of_lt (Nat.mul_le_mul (show q ≤ 4294967295 by omega) (show d0 ≤ 4294967295 by omega)) (by decide)
     have f3 : IntKind.u64.wrap ((q : Int) * (d0 : Int)) = (m1 : Int) := by
      rw [← Int.natCast_mul, hm1]; exact wrapN _ m1b
     obtain ⟨m2, hm2⟩ : ∃ m2, 4294967296 * r = m2 := ⟨_, rfl⟩
     have f4 : IntKind.u64.wrap (4294967296 * (r : Int)) = (m2 : Int) := by
      rw [show 4294967296 * (r : Int) = (m2 : Int) by omega]; exact wrapN _ (by omega)
     obtain ⟨m3, hm3⟩ : ∃ m3, m2 + u0 = m3 := ⟨_, rfl⟩
     have f5 : IntKind.u64.wrap ((m2 : Int) + (u0 : Int)) = (m3 : Int) := by
      rw [show (m2 : Int) + (u0 : Int) = (m3 : Int) by omega]; exact wrapN _ (by omega)
     by_cases c4 : m3 < m1
     ·obtain ⟨q1, g'⟩ := g.out.down D0.out UU0.out b5 (.inr (by rw [hm1]; omega))
      rw [hq2, hr2] at g'
      have G' := Lib.hid g'
      clear g g'
      have f1 : IntKind.u64.wrap ((q : Int) - 1) = (q2 : Int) := by
       rw [show (q : Int) - 1 = (q2 : Int) by omega]; exact wrapN _ (by omega)
      have ql : q2 < q := by omega
      have qb : q2 < 18446744073709551616 := by omega
      clear hq2 q1 hm1 hm2 hm3 m1b
      by_cases c3 : 4294967296 ≤ r2
      ·have DN := Lib.hid ((G'.out.done2 D0.out UU0.out b3 c3).trans HQQ.out)
       clear hr2
       have C1 := Lib.hid c1
       have kd : decide ((4294967296 : Int) ≤ (q : Int)) = false := decide_eq_false (by omega)
       have C3 := Lib.hid c3
       have ke : decide ((4294967296 : Int) ≤ (r2 : Int)) = true := decide_eq_true (by omega)
       clear c1 c3
       go_wp2_with fail
       go_meet
       exact ⟨by rw [DN.out], ⟨_, rfl⟩, by first | rfl | trivial⟩
      ·clear hr2
       have C1 := Lib.hid c1
       have kd : decide ((4294967296 : Int) ≤ (q : Int)) = false := decide_eq_false (by omega)
       have C3 := Lib.hid c3
       have ke : decide ((4294967296 : Int) ≤ (r2 : Int)) = false := decide_eq_false (by omega)
       clear c1 c3
       go_wp2_with fail
       exact ⟨⟨q2, r2, rfl, rfl, by first | rfl | trivial, qb, by have := C3.out; omega, G'⟩, by simp [intOf]; omega⟩
     ·have DN := Lib.hid ((g.out.done1 D0.out (by rw [hm1]; omega)).trans HQQ.out)
      clear hq2 hm1 hm2 hm3 m1b hr2 g
      have C1 := Lib.hid c1
      have kd : decide ((4294967296 : Int) ≤ (q : Int)) = false := decide_eq_false (by omega)
      clear c1
      go_wp2_with fail
      go_meet
      exact ⟨by rw [DN.out], ⟨_, rfl⟩, by first | rfl | trivial⟩
  case rest =>
   obtain ⟨rfl, ⟨r8, rfl⟩, rfl⟩ := hcut
   clear gg0 Q0b R0b
   have s3 := S3.out
   have uu2 := HUU.out
   obtain ⟨bt1, bt2⟩ := BTH.out
   have k2 := K2.out
   rw [← bt2] at k2
   have qM : QQ * Y ≤ UU * 4294967296 + u0 := by rw [EY.out, ← HQQ.out]; exact Nat.div_mul_le_self _ _
   have QL2 := Dv.left (M := UU * 4294967296 + u0) (y := Y)
   have e1 : (UU * 4294967296 + u0) / Y = QQ := by rw [EY.out]; exact HQQ.out
   rw [e1] at QL2 bt1
   rw [← QL2] at k2
   have rl : (UU * 4294967296 + u0) % Y < Y := Nat.mod_lt _ (by omega)
   rw [← QL2] at rl
   have a0 : IntKind.u64.wrap ((Q : Int) * 4294967296) = ((Q * 4294967296 : Nat) : Int) := by
    rw [IntKind.wrap_u64]; omega
   have a9 : IntKind.u64.wrap (((Q * 4294967296 : Nat) : Int) + (QQ : Int)) = ((Q * 4294967296 + QQ : Nat) : Int) := by
    rw [IntKind.wrap_u64]; omega
   have a1 : IntKind.u64.wrap ((UU : Int) * 4294967296) = ((UU * 4294967296 % 18446744073709551616 : Nat) : Int) := by
    rw [IntKind.wrap_u64, Int.natCast_emod, Int.natCast_mul]; rfl
   have a2 : IntKind.u64.wrap (((UU * 4294967296 % 18446744073709551616 : Nat) : Int) + (u0 : Int)) = (((UU * 4294967296 + u0) % 18446744073709551616 : Nat) : Int) := by
    rw [IntKind.wrap_u64]; omega
   have a3 : IntKind.u64.wrap ((QQ : Int) * (Y : Int)) = ((QQ * Y % 18446744073709551616 : Nat) : Int) := by
    rw [IntKind.wrap_u64, Int.natCast_emod, Int.natCast_mul]; rfl
   have a4 : IntKind.u64.wrap ((((UU * 4294967296 + u0) % 18446744073709551616 : Nat) : Int) - ((QQ * Y % 18446744073709551616 : Nat) : Int)) = ((UU * 4294967296 + u0 - QQ * Y : Nat) : Int) := by
    rw [IntKind.wrap_u64]
    clear bt1 QL2 e1
    generalize QQ * Y = QY at *
    omega
   obtain ⟨A0, hA0⟩ : ∃ A0, Q * 4294967296 = A0 := ⟨_, rfl⟩
   obtain ⟨A5, hA5⟩ : ∃ A5, Q * 4294967296 + QQ = A5 := ⟨_, rfl⟩
   obtain ⟨A1, hA1⟩ : ∃ A1, UU * 4294967296 % 18446744073709551616 = A1 := ⟨_, rfl⟩
   obtain ⟨A2, hA2⟩ : ∃ A2, (UU * 4294967296 + u0) % 18446744073709551616 = A2 := ⟨_, rfl⟩
   obtain ⟨A3, hA3⟩ : ∃ A3, QQ * Y % 18446744073709551616 = A3 := ⟨_, rfl⟩
   obtain ⟨A4, hA4⟩ : ∃ A4, UU * 4294967296 + u0 - QQ * Y = A4 := ⟨_, rfl⟩
   rw [hA5] at a9 bt1
   rw [hA0] at a0 a9
   rw [hA1] at a1 a2
   rw [hA2] at a2 a4
   rw [hA3] at a3 a4
   rw [hA4] at a4 k2
   have sm : min s 64 = s := by omega
   clear hA0 hA1 hA2 hA3 hA4 hA5 qM QL2 e1 rl s3 uu2 bt2
   have R1 := Lib.hid bt1
   have R2 := Lib.hid k2
   clear bt1 k2
   go_wp2_with fail
   go_ret2
   exact ⟨by rw [← R1.out, ← R2.out, Int.natCast_ediv, Int.natCast_pow]; rfl, 0, rfl⟩
end Go.Proofs.YtfangplfbbgphaaGreatDoor
namespace Go.Proofs.YtfangplfbbgphaaGreatDoor
open Go.ChangeShapes Go.WideShapes Go.ChangeAt Go.RowKit
set_option linter.unusedVariables false
set_option maxRecDepth 100000
attribute [local go_sem ↓] Go.wp_at_zero Go.wp_at_succ
structure P2 (w W : World) (an ad bn bd : Int) : Prop where
 a : W.heap[w.heap.size]? = some (.cells #[.int .i64 an, .int .i64 ad] 36)
 b : W.heap[w.heap.size + 1]? = some (.cells #[.int .i64 bn, .int .i64 bd] 36)
 n : Below w.heap.size w W
theorem P2.next {w W W' : World} {an ad bn bd : Int} (h : P2 w W an ad bn bd) (hb : Below W.heap.size W W') : P2 w W' an ad bn bd := ⟨blk_next hb h.a, blk_next hb h.b, Bgo h.n hb⟩
theorem P2.init (w : World) (an ad bn bd : Int) : P2 w ((w.alloc (.cells #[.int .i64 an, .int .i64 ad] 36)).alloc (.cells #[.int .i64 bn, .int .i64 bd] 36)) an ad bn bd := ⟨blk1 w _ _, blk2 w _ _, Bal (Bal (Below.refl _ _) _) _⟩
end Go.Proofs.YtfangplfbbgphaaGreatDoor
namespace Go.Proofs.YtfangplfbbgphaaGreatDoor
open Go.ChangeShapes Go.WideShapes Go.ChangeAt Go.RowKit
set_option linter.unusedVariables false
set_option maxRecDepth 100000
attribute [local go_sem ↓] Go.wp_at_zero Go.wp_at_succ
def tailF (neg : Bool) (X g d1 d2 : Nat) : Int × Int × Int := if X / Nat.gcd (X % g) g = 0 then (0, 1, 0) else lowF neg (X / Nat.gcd (X % g) g) ((d1 / g) * (d2 / Nat.gcd (X % g) g))
def addP (an bn : Int) (P Q g y v : Nat) : Int × Int × Int :=
 if decide (an < 0) = decide (bn < 0) then tailF (decide (an < 0)) (P + Q) g y v else if P < Q then tailF (decide (bn < 0)) (Q - P) g v y else tailF (decide (an < 0)) (P - Q) g y v
def addF (an ad bn bd : Int) : Int × Int × Int :=
 addP an bn (an.natAbs * (bd.natAbs / Nat.gcd ad.natAbs bd.natAbs)) (bn.natAbs * (ad.natAbs / Nat.gcd ad.natAbs bd.natAbs)) (Nat.gcd ad.natAbs bd.natAbs) ad.natAbs bd.natAbs
def addR (an ad bn bd : Int) : Int × Int × Int := if errB an ad bn bd = 0 then addF an ad bn bd else (0, 0, errB an ad bn bd)
theorem eqArr4 (a b c d : Int) (w : World) : (Op.equalIn 9999 154 (.agg #[.int .u64 a, .int .u64 b, .int .u64 c, .int .u64 d]) (.agg #[.int .u64 0, .int .u64 0, .int .u64 0, .int .u64 0])).run Tryz.prog w = .ok (a == 0 && (b == 0 && (c == 0 && d == 0))) w := by
 have u3 := Tryz.underlying150
 have a3 := Tryz.isAgg150
 have z3 := Tryz.sizeOf150
 rw [show (9999 : Nat) = 9998 + 1 from rfl, Op.equalIn]
 simp only [Sem.run_bind, run_underlying Tryz.underlying154, Result.andThen_ok]
 simp only [Std.Legacy.Range.forIn_eq_forIn_range', Std.Legacy.Range.size, Nat.sub_zero, Nat.add_sub_cancel, Nat.div_one, List.range'_succ, List.range'_zero, List.forIn_cons, List.forIn_nil]
 go_simp
 by_cases h1 : a = 0 <;> by_cases h2 : b = 0 <;> by_cases h3 : c = 0 <;> by_cases h4 : d = 0 <;> simp [h1, h2, h3, h4]
attribute [local go_sem] eqArr4
theorem bfl {p : Prop} {b : Bool} (h1 : b = true) (h2 : b = false) : p := by rw [h1] at h2; cases h2
def SK (L : List (Nat × Nat × Obj)) (k : Nat) (X : World) : Prop := ∀ p ∈ L, p.1 = k → X.heap[p.2.1]? = some p.2.2
theorem SK.next {L : List (Nat × Nat × Obj)} {k : Nat} {X Y : World} (h : SK L k X) (hb : Below X.heap.size X Y) : SK L k Y := fun p hp e => blk_next hb (h p hp e)
theorem SK.drop {L : List (Nat × Nat × Obj)} {k : Nat} {Y : World} (h : ∀ p ∈ L, p.1 ≠ k) : SK L k Y := fun p hp e => absurd e (h p hp)
end Go.Proofs.YtfangplfbbgphaaGreatDoor
namespace Go.Proofs.YtfangplfbbgphaaGreatDoor
set_option linter.unusedVariables false
set_option maxRecDepth 100000
def redF (N : Int) (D : Nat) : Int × Int × Int := lowF (decide (N < 0)) (N.natAbs / Nat.gcd N.natAbs D) (D / Nat.gcd N.natAbs D)
theorem cop_of {A B m : Nat} (h : Nat.gcd B m = 1) (f : ∀ d, d ∣ A → d ∣ m → d ∣ B) : Nat.gcd A m = 1 :=
 Nat.eq_one_of_dvd_one (h ▸ Nat.dvd_gcd (f _ (Nat.gcd_dvd_left _ _) (Nat.gcd_dvd_right _ _)) (Nat.gcd_dvd_right _ _))
theorem lowF_zero (b : Bool) (d : Nat) : lowF b 0 d = lowF false 0 d := by cases b <;> simp [lowF]
theorem tail_red {neg : Bool} {X g y v d1 d2 : Nat} (hg : 0 < g) (e1 : d1 = g * y) (e2 : d2 = g * v) (hy : Nat.gcd X y = 1) (hv : Nat.gcd X v = 1) :
  tailF neg X g d1 d2 = if X = 0 then (0, 1, 0) else lowF neg ((g * X) / Nat.gcd (g * X) (d1 * d2)) ((d1 * d2) / Nat.gcd (g * X) (d1 * d2)) := by
 subst e1 e2
 have h1 : Nat.gcd (X % g) g = Nat.gcd X g := by rw [← Nat.gcd_rec, Nat.gcd_comm]
 have e : g * y * (g * v) = g * (y * (v * g)) := by grind
 have h2 : Nat.gcd (g * X) (g * y * (g * v)) = g * Nat.gcd X g := by
  rw [e, Nat.gcd_mul_left, Nat.gcd_mul_right_right_of_gcd_eq_one hy, Nat.gcd_mul_right_right_of_gcd_eq_one hv]
 have hp : 0 < Nat.gcd X g := Nat.gcd_pos_of_pos_right _ hg
 have hd : Nat.gcd X g ∣ X := Nat.gcd_dvd_left _ _
 have hdg : Nat.gcd X g ∣ g := Nat.gcd_dvd_right _ _
 unfold tailF
 rw [h1, h2]
 have z : X / Nat.gcd X g = 0 ↔ X = 0 := by
  constructor
  ·intro h
   have := Nat.div_mul_cancel hd
   rw [h] at this; omega
  ·intro h; rw [h]; exact Nat.zero_div _
 by_cases c : X = 0
 ·rw [if_pos (z.2 c), if_pos c]
 ·rw [if_neg (fun h => c (z.1 h)), if_neg c, Nat.mul_div_mul_left _ _ hg, e, Nat.mul_div_mul_left _ _ hg, Nat.mul_div_cancel_left _ hg, Nat.mul_comm v g, Nat.mul_div_assoc _ (Nat.dvd_trans hdg (Nat.dvd_mul_right _ _))]
theorem redF_of_zero (D : Nat) (hD : 0 < D) : redF 0 D = (0, 1, 0) := by
 unfold redF
 simp [Nat.div_self hD, lowF]
theorem tail_eq {neg : Bool} {X g y v d1 d2 : Nat} {N : Int} {D : Nat} (hg : 0 < g) (e1 : d1 = g * y) (e2 : d2 = g * v) (hy : Nat.gcd X y = 1) (hv : Nat.gcd X v = 1) (hN : N.natAbs = g * X) (hs : X ≠ 0 → neg = decide (N < 0)) (hD : D = d1 * d2) (h1 : 0 < d1) (h2 : 0 < d2) :
  tailF neg X g d1 d2 = redF N D := by
 rw [tail_red hg e1 e2 hy hv]
 by_cases c : X = 0
 ·rw [if_pos c]
  have : N = 0 := by rw [c] at hN; omega
  rw [this, redF_of_zero D (by rw [hD]; exact Nat.mul_pos h1 h2)]
 ·rw [if_neg c]
  unfold redF
  rw [hN, hD, hs c]
theorem addF_red {an ad bn bd : Int} (va : VF an ad) (vb : VF bn bd) : addF an ad bn bd = redF (an * bd + bn * ad) (ad.natAbs * bd.natAbs) := by
 have d1 := va.d1
 have d3 := vb.d1
 have ga := va.g
 have gb := vb.g
 obtain ⟨Y, rfl⟩ := Int.eq_ofNat_of_zero_le (show 0 ≤ ad by omega)
 obtain ⟨V, rfl⟩ := Int.eq_ofNat_of_zero_le (show 0 ≤ bd by omega)
 unfold addF
 simp only [Int.natAbs_natCast] at *
 have hg : 0 < Nat.gcd Y V := Nat.gcd_pos_of_pos_right _ (by omega)
 have eY := Nat.mul_div_cancel' (Nat.gcd_dvd_left Y V)
 have eV := Nat.mul_div_cancel' (Nat.gcd_dvd_right Y V)
 have cop : Nat.gcd (Y / Nat.gcd Y V) (V / Nat.gcd Y V) = 1 := Nat.coprime_div_gcd_div_gcd hg
 generalize Nat.gcd Y V = g at *
 generalize Y / g = y at *
 generalize V / g = v at *
 have cx : Nat.gcd an.natAbs y = 1 := by
  refine cop_of (B := an.natAbs) (m := y) ?_ (fun d h _ => h)
  exact Nat.Coprime.coprime_mul_left_right (k := g) (by rw [eY]; exact ga)
 have cu : Nat.gcd bn.natAbs v = 1 := Nat.Coprime.coprime_mul_left_right (k := g) (by rw [eV]; exact gb)
 have cP : Nat.gcd (an.natAbs * v) y = 1 := Nat.Coprime.mul_left cx (Nat.Coprime.symm cop)
 have cQ : Nat.gcd (bn.natAbs * y) v = 1 := Nat.Coprime.mul_left cu cop
 have pP : v ∣ an.natAbs * v := Nat.dvd_mul_left _ _
 have pQ : y ∣ bn.natAbs * y := Nat.dvd_mul_left _ _
 have nP : ((an.natAbs * v : Nat) : Int) * g = if an < 0 then -(an * V) else an * V := by
  rw [← eV]; push_cast
  by_cases c : an < 0
  ·rw [if_pos c, show ((an.natAbs : Nat) : Int) = -an by omega]; grind
  ·rw [if_neg c, show ((an.natAbs : Nat) : Int) = an by omega]; grind
 have nQ : ((bn.natAbs * y : Nat) : Int) * g = if bn < 0 then -(bn * Y) else bn * Y := by
  rw [← eY]; push_cast
  by_cases c : bn < 0
  ·rw [if_pos c, show ((bn.natAbs : Nat) : Int) = -bn by omega]; grind
  ·rw [if_neg c, show ((bn.natAbs : Nat) : Int) = bn by omega]; grind
 have zP : an < 0 → 0 < an.natAbs * v := fun h => Nat.mul_pos (by omega) (Nat.pos_of_ne_zero (fun e => by rw [e] at eV; omega))
 have zQ : bn < 0 → 0 < bn.natAbs * y := fun h => Nat.mul_pos (by omega) (Nat.pos_of_ne_zero (fun e => by rw [e] at eY; omega))
 generalize an.natAbs * v = P at *
 generalize bn.natAbs * y = Q at *
 have gi : 0 < (g : Int) := by omega
 unfold addP
 have gP : (P : Int) * g = ((g * P : Nat) : Int) := by push_cast; grind
 have gQ : (Q : Int) * g = ((g * Q : Nat) : Int) := by push_cast; grind
 rw [gP] at nP
 rw [gQ] at nQ
 have mP : 0 < P → 0 < g * P := fun h => Nat.mul_pos hg h
 have mQ : 0 < Q → 0 < g * Q := fun h => Nat.mul_pos hg h
 by_cases cs : decide (an < 0) = decide (bn < 0)
 ·rw [if_pos cs]
  refine tail_eq hg eY.symm eV.symm ?_ ?_ ?_ ?_ rfl (by omega) (by omega)
  ·exact cop_of cP (fun d h k => (Nat.dvd_add_left (Nat.dvd_trans k pQ)).1 h)
  ·exact cop_of cQ (fun d h k => (Nat.dvd_add_right (Nat.dvd_trans k pP)).1 h)
  ·rw [Nat.mul_add]
   generalize an * (V : Int) = A at *
   generalize bn * (Y : Int) = B at *
   by_cases c : an < 0
   ·have c' : bn < 0 := by simpa [c] using cs
    rw [if_pos c] at nP; rw [if_pos c'] at nQ; omega
   ·have c' : ¬ bn < 0 := by simpa [c] using cs
    rw [if_neg c] at nP; rw [if_neg c'] at nQ; omega
  ·intro _
   generalize an * (V : Int) = A at *
   generalize bn * (Y : Int) = B at *
   by_cases c : an < 0
   ·have c' : bn < 0 := by simpa [c] using cs
    rw [if_pos c] at nP; rw [if_pos c'] at nQ
    have := mP (zP c)
    simp [c]; omega
   ·have c' : ¬ bn < 0 := by simpa [c] using cs
    rw [if_neg c] at nP; rw [if_neg c'] at nQ
    simp [c]; omega
 ·rw [if_neg cs]
  by_cases cp : P < Q
  ·rw [if_pos cp]
   have cl : g * P < g * Q := Nat.mul_lt_mul_of_pos_left cp hg
   have eX : P + (Q - P) = Q := by omega
   have eG : g * (Q - P) = g * Q - g * P := Nat.mul_sub g Q P
   refine tail_eq hg eV.symm eY.symm ?_ ?_ ?_ ?_ (Nat.mul_comm _ _) (by omega) (by omega)
   ·refine cop_of cQ (fun d h k => ?_)
    rw [← eX]; exact Nat.dvd_add (Nat.dvd_trans k pP) h
   ·refine cop_of cP (fun d h k => ?_)
    have := Nat.dvd_trans k pQ
    rw [← eX] at this
    exact (Nat.dvd_add_left h).1 this
   ·rw [eG]
    generalize an * (V : Int) = A at *
    generalize bn * (Y : Int) = B at *
    by_cases c : an < 0
    ·have c' : ¬ bn < 0 := fun h => cs (by simp [c, h])
     rw [if_pos c] at nP; rw [if_neg c'] at nQ; omega
    ·have c' : bn < 0 := by
      by_cases h : bn < 0
      ·exact h
      ·exact absurd (by simp [c, h]) cs
     rw [if_neg c] at nP; rw [if_pos c'] at nQ; omega
   ·intro _
    generalize an * (V : Int) = A at *
    generalize bn * (Y : Int) = B at *
    by_cases c : an < 0
    ·have c' : ¬ bn < 0 := fun h => cs (by simp [c, h])
     rw [if_pos c] at nP; rw [if_neg c'] at nQ; simp [c']; omega
    ·have c' : bn < 0 := by
      by_cases h : bn < 0
      ·exact h
      ·exact absurd (by simp [c, h]) cs
     rw [if_neg c] at nP; rw [if_pos c'] at nQ; simp [c']; omega
  ·rw [if_neg cp]
   have cl : g * Q ≤ g * P := Nat.mul_le_mul_left _ (by omega)
   have eX : Q + (P - Q) = P := by omega
   have eG : g * (P - Q) = g * P - g * Q := Nat.mul_sub g P Q
   refine tail_eq hg eY.symm eV.symm ?_ ?_ ?_ ?_ rfl (by omega) (by omega)
   ·refine cop_of cP (fun d h k => ?_)
    rw [← eX]; exact Nat.dvd_add (Nat.dvd_trans k pQ) h
   ·refine cop_of cQ (fun d h k => ?_)
    have := Nat.dvd_trans k pP
    rw [← eX] at this
    exact (Nat.dvd_add_left h).1 this
   ·rw [eG]
    generalize an * (V : Int) = A at *
    generalize bn * (Y : Int) = B at *
    by_cases c : an < 0
    ·have c' : ¬ bn < 0 := fun h => cs (by simp [c, h])
     rw [if_pos c] at nP; rw [if_neg c'] at nQ; omega
    ·have c' : bn < 0 := by
      by_cases h : bn < 0
      ·exact h
      ·exact absurd (by simp [c, h]) cs
     rw [if_neg c] at nP; rw [if_pos c'] at nQ; omega
   ·intro hX
    have cl' : g * Q < g * P := Nat.mul_lt_mul_of_pos_left (by omega) hg
    generalize an * (V : Int) = A at *
    generalize bn * (Y : Int) = B at *
    by_cases c : an < 0
    ·have c' : ¬ bn < 0 := fun h => cs (by simp [c, h])
     rw [if_pos c] at nP; rw [if_neg c'] at nQ; simp [c]; omega
    ·have c' : bn < 0 := by
      by_cases h : bn < 0
      ·exact h
      ·exact absurd (by simp [c, h]) cs
     rw [if_neg c] at nP; rw [if_pos c'] at nQ; simp [c]; omega
theorem mulF_red {an ad bn bd : Int} (va : VF an ad) (vb : VF bn bd) : mulF an ad bn bd = redF (an * bn) (ad.natAbs * bd.natAbs) := by
 have d1 := va.d1
 have d3 := vb.d1
 have ga := va.g
 have gb := vb.g
 have hg : 0 < Nat.gcd an.natAbs bd.natAbs := Nat.gcd_pos_of_pos_right _ (by omega)
 have hh : 0 < Nat.gcd bn.natAbs ad.natAbs := Nat.gcd_pos_of_pos_right _ (by omega)
 have ex := Nat.mul_div_cancel' (Nat.gcd_dvd_left an.natAbs bd.natAbs)
 have ev := Nat.mul_div_cancel' (Nat.gcd_dvd_right an.natAbs bd.natAbs)
 have eu := Nat.mul_div_cancel' (Nat.gcd_dvd_left bn.natAbs ad.natAbs)
 have ey := Nat.mul_div_cancel' (Nat.gcd_dvd_right bn.natAbs ad.natAbs)
 have c1 : Nat.gcd (an.natAbs / Nat.gcd an.natAbs bd.natAbs) (bd.natAbs / Nat.gcd an.natAbs bd.natAbs) = 1 := Nat.coprime_div_gcd_div_gcd hg
 have c2 : Nat.gcd (bn.natAbs / Nat.gcd bn.natAbs ad.natAbs) (ad.natAbs / Nat.gcd bn.natAbs ad.natAbs) = 1 := Nat.coprime_div_gcd_div_gcd hh
 have nz : (an * bn).natAbs = an.natAbs * bn.natAbs := Int.natAbs_mul _ _
 have sg : an.natAbs * bn.natAbs ≠ 0 → (decide (an < 0) != decide (bn < 0)) = decide (an * bn < 0) := by
  intro h
  have a0 : an ≠ 0 := fun e => h (by rw [e]; simp)
  have b0 : bn ≠ 0 := fun e => h (by rw [e]; simp)
  by_cases ca : an < 0 <;> by_cases cb : bn < 0
  ·have := Int.mul_pos_of_neg_of_neg ca cb
   simp [ca, cb]; omega
  ·have := Int.mul_neg_of_neg_of_pos ca (show 0 < bn by omega)
   simp [ca, cb, this]
  ·have := Int.mul_neg_of_pos_of_neg (show 0 < an by omega) cb
   simp [ca, cb, this]
  ·have := Int.mul_pos (show 0 < an by omega) (show 0 < bn by omega)
   simp [ca, cb]; omega
 unfold mulF redF
 rw [nz]
 generalize (decide (an < 0) != decide (bn < 0)) = neg at *
 generalize decide (an * bn < 0) = neg' at *
 generalize an.natAbs = x at *
 generalize bn.natAbs = u at *
 generalize ad.natAbs = y at *
 generalize bd.natAbs = v at *
 generalize Nat.gcd x v = g at *
 generalize Nat.gcd u y = h at *
 generalize x / g = x' at *
 generalize v / g = v' at *
 generalize u / h = u' at *
 generalize y / h = y' at *
 have c3 : Nat.gcd x' y' = 1 := Nat.Coprime.coprime_mul_left (k := g) (Nat.Coprime.coprime_mul_left_right (k := h) (by rw [ex, ey]; exact ga))
 have c4 : Nat.gcd u' v' = 1 := Nat.Coprime.coprime_mul_left (k := h) (Nat.Coprime.coprime_mul_left_right (k := g) (by rw [eu, ev]; exact gb))
 have cc : Nat.gcd (x' * u') (y' * v') = 1 := Nat.Coprime.mul_left (Nat.Coprime.mul_right c3 c1) (Nat.Coprime.mul_right c2 c4)
 have hgh : 0 < g * h := Nat.mul_pos hg hh
 have e1 : x * u = g * h * (x' * u') := by rw [← ex, ← eu]; grind
 have e2 : y * v = g * h * (y' * v') := by rw [← ey, ← ev]; grind
 have e3 : Nat.gcd (x * u) (y * v) = g * h := by rw [e1, e2, Nat.gcd_mul_left, cc, Nat.mul_one]
 rw [e3, e2, Nat.mul_div_cancel_left _ hgh]
 by_cases c : x * u = 0
 ·have z : x' * u' = 0 := by
   rw [e1] at c
   rcases Nat.mul_eq_zero.1 c with c | c
   ·omega
   ·exact c
  rw [z, c, Nat.zero_div, lowF_zero neg, lowF_zero neg']
 ·rw [sg c, e1, Nat.mul_div_cancel_left _ hgh]
theorem redF_val {N n d e : Int} {D : Nat} (hD : 0 < D) (h : redF N D = (n, d, e)) (he : e = 0) : VF n d ∧ n * D = N * d := by
 unfold redF at h
 have hp : 0 < Nat.gcd N.natAbs D := Nat.gcd_pos_of_pos_right _ hD
 have e1 := Nat.mul_div_cancel' (Nat.gcd_dvd_left N.natAbs D)
 have e2 := Nat.mul_div_cancel' (Nat.gcd_dvd_right N.natAbs D)
 have co : Nat.gcd (N.natAbs / Nat.gcd N.natAbs D) (D / Nat.gcd N.natAbs D) = 1 := Nat.coprime_div_gcd_div_gcd hp
 generalize Nat.gcd N.natAbs D = g at *
 generalize N.natAbs / g = m at *
 generalize D / g = k at *
 have k0 : 0 < k := Nat.pos_of_ne_zero (fun z => by rw [z] at e2; omega)
 unfold lowF at h
 by_cases c : 1000000000000000000 < m ∨ 1000000000000000000 < k
 ·rw [if_pos c] at h
  cases h; cases he
 ·rw [if_neg c] at h
  simp only [Prod.mk.injEq] at h
  obtain ⟨h1, h2, _⟩ := h
  subst h1 h2
  have eN : (g : Int) * m = if N < 0 then -N else N := by
   have : ((g * m : Nat) : Int) = (N.natAbs : Int) := by rw [e1]
   push_cast at this
   split <;> omega
  have eD : (g : Int) * k = D := by exact_mod_cast e2
  by_cases cn : N < 0
  ·rw [if_pos cn] at eN
   simp only [cn, decide_true, if_true]
   refine ⟨⟨by omega, by omega, by omega, by omega, by simpa using co⟩, ?_⟩
   rw [← eD]; grind
  ·rw [if_neg cn] at eN
   simp only [cn, decide_false, Bool.false_eq_true, if_false]
   refine ⟨⟨by omega, by omega, by omega, by omega, by simpa using co⟩, ?_⟩
   rw [← eD]; grind
theorem VF.same {n d m k : Int} (h : VF n d) (h' : VF m k) (e : n * k = m * d) : n = m ∧ d = k := by
 have d1 := h.d1
 have k1 := h'.d1
 have en : n.natAbs * k.natAbs = m.natAbs * d.natAbs := by rw [← Int.natAbs_mul, ← Int.natAbs_mul, e]
 have a : d.natAbs ∣ k.natAbs := Nat.Coprime.dvd_of_dvd_mul_left (show Nat.Coprime d.natAbs n.natAbs from Nat.Coprime.symm h.g) (en ▸ Nat.dvd_mul_left _ _)
 have b : k.natAbs ∣ d.natAbs := Nat.Coprime.dvd_of_dvd_mul_left (show Nat.Coprime k.natAbs m.natAbs from Nat.Coprime.symm h'.g) (en ▸ Nat.dvd_mul_left _ _)
 have ed : d = k := by have := Nat.dvd_antisymm a b; omega
 subst ed
 refine ⟨?_, rfl⟩
 exact Int.eq_of_mul_eq_mul_right (by omega) e
end Go.Proofs.YtfangplfbbgphaaGreatDoor
namespace Go.Proofs.YtfangplfbbgphaaGreatDoor
open Go.ChangeShapes Go.WideShapes Go.ChangeAt Go.RowKit
set_option linter.unusedVariables false
set_option maxRecDepth 100000
attribute [local go_sem ↓] Go.wp_at_zero Go.wp_at_succ
def subR (an ad bn bd : Int) : Int × Int × Int := if errB an ad bn bd = 0 then addF an ad (-bn) bd else (0, 0, errB an ad bn bd)
theorem VF.neg {n d : Int} (h : VF n d) : VF (-n) d := ⟨h.d1, h.d2, by have := h.n2; omega, by have := h.n1; omega, by rw [Int.natAbs_neg]; exact h.g⟩
end Go.Proofs.YtfangplfbbgphaaGreatDoor
