/- Several texts in one. -/
import Derived.Deep.DeepCutAuto
import Derived.Deep.CutBlock
import Derived.Lib.Strings
import Derived.Lib.Slices
import Derived.Lib.Small
import Derived.Lib.Walk
import Derived.Lib.BitFns
import Derived.Laws.Externs
import Derived.Shelf.Spec.BitsCarry
import Derived.Test.YtbbnkclajpaghaaGreatDoorMF01
import Derived.Test.YtbbnkclajpaghaaGreatDoorMF04
import Derived.Test.YtbbnkclajpaghaaGreatDoorMF12
import Derived.Test.YtbbnkclajpaghaaGreatDoorMF13
set_option maxHeartbeats 16000000
set_option maxRecDepth 100000
set_option linter.unusedVariables false
set_option linter.unusedSimpArgs false
namespace Go.Proofs.YtbbnkclajpaghaaGreatDoor
section
open Go.ChangeShapes Go.WideShapes Go.ChangeAt Go.RowKit
attribute [local go_sem ↓] Go.wp_at_zero Go.wp_at_succ
theorem bitLen_pow : ∀ (n x : Nat), x < 2 ^ n → 0 < x → n ≤ 64 → 2 ^ (Lib.bitLen x - 1) ≤ x ∧ x < 2 ^ Lib.bitLen x := by
 intro n
 induction n with
 | zero => intro x h h0 _; simp at h; omega
 | succ n ih =>
  intro x h h0 hn
  have h64 : x < 2 ^ 64 := Nat.lt_of_lt_of_le h (Nat.pow_le_pow_right (by decide) hn)
  rw [Lib.bitLen_half x (by omega) h64]
  by_cases c : x / 2 = 0
  ·rw [c]
   have : Lib.bitLen 0 = 0 := by decide
   rw [this]; simp; omega
  ·obtain ⟨a, b⟩ := ih (x / 2) (by rw [Nat.pow_succ] at h; omega) (by omega) (by omega)
   have p : 1 ≤ Lib.bitLen (x / 2) := by
    rcases Nat.eq_zero_or_pos (Lib.bitLen (x / 2)) with e | e
    ·rw [e] at b; simp at b; omega
    ·exact e
   rw [show 1 + Lib.bitLen (x / 2) - 1 = (Lib.bitLen (x / 2) - 1) + 1 by omega, show 1 + Lib.bitLen (x / 2) = Lib.bitLen (x / 2) + 1 by omega, Nat.pow_succ, Nat.pow_succ]
   omega
theorem lead {y : Nat} (h0 : 0 < y) (h : y < 18446744073709551616) : ∃ s : Nat, s ≤ 63 ∧ 64 - (Lib.bitLen y : Int) = (s : Int) ∧ y * 2 ^ s < 18446744073709551616 ∧ 9223372036854775808 ≤ y * 2 ^ s := by
 obtain ⟨a, b⟩ := bitLen_pow 64 y h h0 (by omega)
 have l := bitLen_le64 (y : Int) (by omega) (by omega)
 rw [Int.toNat_natCast] at l
 have p : 1 ≤ Lib.bitLen y := by
  rcases Nat.eq_zero_or_pos (Lib.bitLen y) with e | e
  ·rw [e] at b; simp at b; omega
  ·exact e
 refine ⟨64 - Lib.bitLen y, by omega, by omega, ?_, ?_⟩
 ·have : 18446744073709551616 = 2 ^ Lib.bitLen y * 2 ^ (64 - Lib.bitLen y) := by rw [← Nat.pow_add, show Lib.bitLen y + (64 - Lib.bitLen y) = 64 by omega]
  rw [this]; exact Nat.mul_lt_mul_of_pos_right b (Nat.two_pow_pos _)
 ·have : 9223372036854775808 = 2 ^ (Lib.bitLen y - 1) * 2 ^ (64 - Lib.bitLen y) := by rw [← Nat.pow_add, show Lib.bitLen y - 1 + (64 - Lib.bitLen y) = 63 by omega]
  rw [this]; exact Nat.mul_le_mul_right _ a
theorem or_shift {a b s : Nat} (h : b < 2 ^ s) (h64 : a * 2 ^ s + b < 18446744073709551616) : bits .or .u64 ((a * 2 ^ s : Nat) : Int) (b : Int) = ((a * 2 ^ s + b : Nat) : Int) := by
 have e := u64_or_nat (a * 2 ^ s) b (by omega) (by omega)
 rw [e, Nat.mul_comm a, Nat.two_pow_add_eq_or_of_lt h]
theorem div64_calls (hi lo y : Nat) (w : World) (h1 : hi < y) (h2 : y < 18446744073709551616) (h3 : lo < 18446744073709551616) :
  Calls Tryz.prog 162 #[.int .u64 hi, .int .u64 lo, .int .u64 y] w fun e w' => e = .returned (.tuple #[.int .u64 ((hi * 18446744073709551616 + lo) / y : Nat), .int .u64 ((hi * 18446744073709551616 + lo) % y : Nat)]) ∧ ∃ m, w' = w.drewN m := by
 have yn : ¬ y = 0 := by omega
 by_cases c0 : hi = 0
 ·subst c0
  have a3 : IntKind.u64.wrap ((lo : Int) / (y : Int)) = (lo : Int) / (y : Int) := by
   rw [← Int.natCast_ediv]; exact wrapN _ (Nat.lt_of_le_of_lt (Nat.div_le_self _ _) h3)
  have z : 0 * 18446744073709551616 + lo = lo := by omega
  rw [z, Int.natCast_ediv, Int.natCast_emod]
  clear z
  go_enter Tryz.func162, Tryz.ntmps162
  go_wp2_with fail
  go_quiet (fail)
  go_wp2_with fail
  go_ret2
  exact ⟨rfl, _, rfl⟩
 obtain ⟨s, s1, s2, s3, s4⟩ := lead (by omega) h2
 have LZ := zh (fun W => leading_calls (y : Int) W (by omega) (by omega))
 simp only [Int.toNat_natCast] at LZ
 rw [s2] at LZ
 have y1 : 0 < y := by omega
 have pw : 0 < 2 ^ s := Nat.two_pow_pos s
 have pd : 2 ^ s ∣ 18446744073709551616 := ⟨2 ^ (64 - s), by rw [← Nat.pow_add, show s + (64 - s) = 64 by omega]⟩
 have p64 : 18446744073709551616 / 2 ^ s = 2 ^ (64 - s) := by rw [show 18446744073709551616 = 2 ^ s * 2 ^ (64 - s) by rw [← Nat.pow_add, show s + (64 - s) = 64 by omega], Nat.mul_div_cancel_left _ pw]
 have MV := Dv.moved (hi := hi) (lo := lo) (y := y) pd h3
 rw [p64] at MV
 obtain ⟨BK1, BK2⟩ := Dv.back (N := hi * 18446744073709551616 + lo) (y := y) (s := s)
 rw [← MV] at BK1 BK2
 have l1 : lo / 2 ^ (64 - s) < 2 ^ s := (Nat.div_lt_iff_lt_mul (Nat.two_pow_pos _)).2 (by rw [← Nat.pow_add, show s + (64 - s) = 64 by omega]; exact h3)
 have hl : (hi + 1) * 2 ^ s ≤ y * 2 ^ s := Nat.mul_le_mul_right _ (by omega)
 rw [Nat.add_mul, Nat.one_mul] at hl
 have e6 := or_shift (a := hi) l1 (by omega)
 have e1 : IntKind.u64.wrap ((y : Int) * 2 ^ s) = ((y * 2 ^ s : Nat) : Int) := by
  have := wrapN (y * 2 ^ s) s3
  rw [Int.natCast_mul, Int.natCast_pow] at this
  rw [Int.natCast_mul, Int.natCast_pow]; exact this
 have e4 : IntKind.u64.wrap ((hi : Int) * 2 ^ s) = ((hi * 2 ^ s : Nat) : Int) := by
  have := wrapN (hi * 2 ^ s) (by omega)
  rw [Int.natCast_mul, Int.natCast_pow] at this
  rw [Int.natCast_mul, Int.natCast_pow]; exact this
 have e5 : (lo : Int) / 2 ^ (64 - s) = ((lo / 2 ^ (64 - s) : Nat) : Int) := by rw [Int.natCast_ediv, Int.natCast_pow]; rfl
 have e7 : IntKind.u64.wrap ((lo : Int) * 2 ^ s) = ((lo * 2 ^ s % 18446744073709551616 : Nat) : Int) := by
  rw [IntKind.wrap_u64, Int.natCast_emod, Int.natCast_mul, Int.natCast_pow]; rfl
 have u2 : hi * 2 ^ s + lo / 2 ^ (64 - s) < y * 2 ^ s := by omega
 have v2 : lo * 2 ^ s % 18446744073709551616 < 18446744073709551616 := Nat.mod_lt _ (by decide)
 clear l1 hl MV p64 pd
 generalize hi * 2 ^ s = H at *
 generalize lo / 2 ^ (64 - s) = L at *
 generalize lo * 2 ^ s % 18446744073709551616 = V at *
 obtain ⟨U, hU⟩ : ∃ U, H + L = U := ⟨_, rfl⟩
 rw [hU] at e6 u2 BK1 BK2
 clear hU
 obtain ⟨Y, hY⟩ : ∃ Y, y * 2 ^ s = Y := ⟨_, rfl⟩
 rw [hY] at e1 s3 s4 u2 BK1 BK2
 have HY := zh hY
 clear hY
 have yd := Nat.div_add_mod Y 4294967296
 have vd := Nat.div_add_mod V 4294967296
 have e2 : (Y : Int) / 4294967296 = ((Y / 4294967296 : Nat) : Int) := (Int.natCast_ediv Y 4294967296).symm
 have e3 := and32 Y s3
 have e8 : (V : Int) / 4294967296 = ((V / 4294967296 : Nat) : Int) := (Int.natCast_ediv V 4294967296).symm
 have e9 := and32 V v2
 have b1 : Y / 4294967296 < 4294967296 := by omega
 have b2 : 2147483648 ≤ Y / 4294967296 := by omega
 have b3 : Y % 4294967296 < 4294967296 := by omega
 have b4 : V / 4294967296 < 4294967296 := by omega
 have b5 : V % 4294967296 < 4294967296 := by omega
 generalize Y / 4294967296 = d1 at *
 generalize Y % 4294967296 = d0 at *
 generalize V / 4294967296 = u1 at *
 generalize V % 4294967296 = u0 at *
 have dn : ¬ d1 = 0 := by omega
 have EY : Hid (Y = d1 * 4294967296 + d0) := zh (by omega)
 have EV : Hid (V = u1 * 4294967296 + u0) := zh (by omega)
 clear yd vd
 have t1 := tdivN U d1
 have q1 : U / d1 ≤ U := Nat.div_le_self _ _
 have q2 := Nat.div_add_mod U d1
 have q3 : U % d1 < d1 := Nat.mod_lt _ (by omega)
 have g0 := zh (Dv.start (U := U) (u1 := u1) (d1 := d1) (d0 := d0) (by omega) b4)
 have t2 : IntKind.u64.wrap ((U / d1 : Nat) : Int) = ((U / d1 : Nat) : Int) := wrapN _ (by omega)
 have t3 : IntKind.u64.wrap (((U / d1 : Nat) : Int) * (d1 : Int)) = ((d1 * (U / d1) : Nat) : Int) := by
  rw [← Int.natCast_mul, Nat.mul_comm]; exact wrapN _ (by omega)
 have t4 : IntKind.u64.wrap ((U : Int) - ((d1 * (U / d1) : Nat) : Int)) = ((U % d1 : Nat) : Int) := by
  rw [show (U : Int) - ((d1 * (U / d1) : Nat) : Int) = ((U % d1 : Nat) : Int) by omega]; exact wrapN _ (by omega)
 generalize d1 * (U / d1) = z0 at *
 generalize U / d1 = Q0 at *
 generalize U % d1 = R0 at *
 clear s2
 go_enter Tryz.func162, Tryz.ntmps162
 go_wp2_with fail
 refine (LZ.out _).mono ?_
 rintro e w1 ⟨rfl, rfl⟩
 have Q0b : Q0 < 18446744073709551616 := by omega
 have R0b : R0 < 4294967296 := by omega
 obtain ⟨Q, hQ⟩ : ∃ Q, (U * 4294967296 + u1) / (d1 * 4294967296 + d0) = Q := ⟨_, rfl⟩
 have EY2 := EY.out
 have u3 : U < d1 * 4294967296 + d0 := by omega
 have U0 := zh u3
 have HQ : Hid ((U * 4294967296 + u1) / (d1 * 4294967296 + d0) = Q) := zh hQ
 have QT : Q < 4294967296 := by rw [← hQ]; exact Dv.top u3 b4
 have D0 : Hid (0 < d1) := zh (by omega)
 have QL0 := Dv.left (M := U * 4294967296 + u1) (y := d1 * 4294967296 + d0)
 rw [hQ] at QL0
 have QL := zh QL0
 clear QL0
 have K1 := zh BK1
 have K2 := zh BK2
 have S3 := zh s3
 have U2 := zh u2
 have V2 := zh v2
 clear hQ EY2 u3 BK1 BK2 q3 s4 s3 u2 v2 q2
 go_upto_block 0 with fail
 clear LZ t1 t2 t3 t4 e1 e2 e3 e4 e5 e6 e7 e8 e9 q1 HY
 go_cut [15, 16] from 67 to 85 (fun s15 s16 wx => s15 = .int .u64 Q ∧ (∃ r : Nat, s16 = .int .u64 r) ∧ wx = w1)
 case first =>
  go_wp2_with fail
  go_loopw [15, 16] (fun q r wr => ∃ q' r' : Nat, q = .int .u64 q' ∧ r = .int .u64 r' ∧ wr = w1 ∧ q' < 18446744073709551616 ∧ r' < 4294967296 ∧ Hid (Dv.G U u1 d1 d0 q' r')) (fun q _ _ => (intOf q).toNat)
  case atStart => exact ⟨Q0, R0, rfl, rfl, rfl, by omega, by omega, g0⟩
  case round =>
   obtain ⟨q, r, rfl, rfl, rfl, hq, hr, g⟩ := hrel
   clear g0
   obtain ⟨q2, hq2⟩ : ∃ q2, q - 1 = q2 := ⟨_, rfl⟩
   obtain ⟨r2, hr2⟩ : ∃ r2, r + d1 = r2 := ⟨_, rfl⟩
   have f2 : IntKind.u64.wrap ((r : Int) + (d1 : Int)) = (r2 : Int) := by
    rw [show (r : Int) + (d1 : Int) = (r2 : Int) by omega]; exact wrapN _ (by omega)
   by_cases c1 : 4294967296 ≤ q
   ·obtain ⟨q1, g'⟩ := g.out.down D0.out U0.out b4 (.inl c1)
    rw [hq2, hr2] at g'
    have G' := zh g'
    clear g g'
    have f1 : IntKind.u64.wrap ((q : Int) - 1) = (q2 : Int) := by
     rw [show (q : Int) - 1 = (q2 : Int) by omega]; exact wrapN _ (by omega)
    have ql : q2 < q := by omega
    have qb : q2 < 18446744073709551616 := by omega
    clear hq2 q1
    by_cases c3 : 4294967296 ≤ r2
    ·have DN := zh ((G'.out.done2 D0.out U0.out b3 c3).trans HQ.out)
     clear hr2
     have C1 := zh c1
     have kd : decide ((4294967296 : Int) ≤ (q : Int)) = true := decide_eq_true (by omega)
     have C3 := zh c3
     have ke : decide ((4294967296 : Int) ≤ (r2 : Int)) = true := decide_eq_true (by omega)
     clear c1 c3
     go_wp2_with fail
     go_meet
     exact ⟨by rw [DN.out], ⟨_, rfl⟩, by first | rfl | trivial⟩
    ·clear hr2
     have C1 := zh c1
     have kd : decide ((4294967296 : Int) ≤ (q : Int)) = true := decide_eq_true (by omega)
     have C3 := zh c3
     have ke : decide ((4294967296 : Int) ≤ (r2 : Int)) = false := decide_eq_false (by omega)
     clear c1 c3
     go_wp2_with fail
     exact ⟨⟨q2, r2, rfl, rfl, by first | rfl | trivial, qb, by have := C3.out; omega, G'⟩, by simp [intOf]; omega⟩
   ·obtain ⟨m1, hm1⟩ : ∃ m1, q * d0 = m1 := ⟨_, rfl⟩
    have m1b : m1 < 18446744073709551616 := by
     rw [← hm1]; exact Nat.lt_of_le_of_lt (Nat.mul_le_mul (show q ≤ 4294967295 by omega) (show d0 ≤ 4294967295 by omega)) (by decide)
    have f3 : IntKind.u64.wrap ((q : Int) * (d0 : Int)) = (m1 : Int) := by
     rw [← Int.natCast_mul, hm1]; exact wrapN _ m1b
    obtain ⟨m2, hm2⟩ : ∃ m2, 4294967296 * r = m2 := ⟨_, rfl⟩
    have f4 : IntKind.u64.wrap (4294967296 * (r : Int)) = (m2 : Int) := by
     rw [show 4294967296 * (r : Int) = (m2 : Int) by omega]; exact wrapN _ (by omega)
    obtain ⟨m3, hm3⟩ : ∃ m3, m2 + u1 = m3 := ⟨_, rfl⟩
    have f5 : IntKind.u64.wrap ((m2 : Int) + (u1 : Int)) = (m3 : Int) := by
     rw [show (m2 : Int) + (u1 : Int) = (m3 : Int) by omega]; exact wrapN _ (by omega)
    by_cases c4 : m3 < m1
    ·obtain ⟨q1, g'⟩ := g.out.down D0.out U0.out b4 (.inr (by rw [hm1]; omega))
     rw [hq2, hr2] at g'
     have G' := zh g'
     clear g g'
     have f1 : IntKind.u64.wrap ((q : Int) - 1) = (q2 : Int) := by
      rw [show (q : Int) - 1 = (q2 : Int) by omega]; exact wrapN _ (by omega)
     have ql : q2 < q := by omega
     have qb : q2 < 18446744073709551616 := by omega
     clear hq2 q1 hm1 hm2 hm3 m1b
     by_cases c3 : 4294967296 ≤ r2
     ·have DN := zh ((G'.out.done2 D0.out U0.out b3 c3).trans HQ.out)
      clear hr2
      have C1 := zh c1
      have kd : decide ((4294967296 : Int) ≤ (q : Int)) = false := decide_eq_false (by omega)
      have C3 := zh c3
      have ke : decide ((4294967296 : Int) ≤ (r2 : Int)) = true := decide_eq_true (by omega)
      clear c1 c3
      go_wp2_with fail
      go_meet
      exact ⟨by rw [DN.out], ⟨_, rfl⟩, by first | rfl | trivial⟩
     ·clear hr2
      have C1 := zh c1
      have kd : decide ((4294967296 : Int) ≤ (q : Int)) = false := decide_eq_false (by omega)
      have C3 := zh c3
      have ke : decide ((4294967296 : Int) ≤ (r2 : Int)) = false := decide_eq_false (by omega)
      clear c1 c3
      go_wp2_with fail
      exact ⟨⟨q2, r2, rfl, rfl, by first | rfl | trivial, qb, by have := C3.out; omega, G'⟩, by simp [intOf]; omega⟩
    ·have DN := zh ((g.out.done1 D0.out (by rw [hm1]; omega)).trans HQ.out)
     clear hq2 hm1 hm2 hm3 m1b hr2 g
     have C1 := zh c1
     have kd : decide ((4294967296 : Int) ≤ (q : Int)) = false := decide_eq_false (by omega)
     clear c1
     go_wp2_with fail
     go_meet
     exact ⟨by rw [DN.out], ⟨_, rfl⟩, by first | rfl | trivial⟩
 case rest =>
  obtain ⟨rfl, ⟨r9, rfl⟩, rfl⟩ := hcut
  clear g0 Q0b R0b
  have s3 := S3.out
  have u2 := U2.out
  have qM : Q * Y ≤ U * 4294967296 + u1 := by rw [EY.out, ← HQ.out]; exact Nat.div_mul_le_self _ _
  have BT := Dv.both (M := U * 4294967296 + u1) (u0 := u0) (y := Y) (by omega)
  obtain ⟨UU, hUU⟩ : ∃ UU, (U * 4294967296 + u1) % Y = UU := ⟨_, rfl⟩
  have uM : U * 4294967296 + u1 - Q * Y = UU := by have := QL.out; rw [← EY.out] at this; rw [this, hUU]
  have uu2 : UU < Y := by rw [← hUU]; exact Nat.mod_lt _ (by omega)
  rw [hUU, show (U * 4294967296 + u1) / Y = Q by rw [EY.out]; exact HQ.out, show (U * 4294967296 + u1) * 4294967296 + u0 = U * 18446744073709551616 + V by rw [EV.out]; grind, K1.out] at BT
  have UU0 : Hid (UU < d1 * 4294967296 + d0) := zh (by rw [← EY.out]; exact uu2)
  have a1 : IntKind.u64.wrap ((U : Int) * 4294967296) = ((U * 4294967296 % 18446744073709551616 : Nat) : Int) := by
   rw [IntKind.wrap_u64, Int.natCast_emod, Int.natCast_mul]; rfl
  have a2 : IntKind.u64.wrap (((U * 4294967296 % 18446744073709551616 : Nat) : Int) + (u1 : Int)) = (((U * 4294967296 + u1) % 18446744073709551616 : Nat) : Int) := by
   rw [IntKind.wrap_u64]; omega
  have a3 : IntKind.u64.wrap ((Q : Int) * (Y : Int)) = ((Q * Y % 18446744073709551616 : Nat) : Int) := by
   rw [IntKind.wrap_u64, Int.natCast_emod, Int.natCast_mul]; rfl
  have a4 : IntKind.u64.wrap ((((U * 4294967296 + u1) % 18446744073709551616 : Nat) : Int) - ((Q * Y % 18446744073709551616 : Nat) : Int)) = (UU : Int) := by
   rw [IntKind.wrap_u64]
   generalize Q * Y = QY at *
   omega
  obtain ⟨A1, hA1⟩ : ∃ A1, U * 4294967296 % 18446744073709551616 = A1 := ⟨_, rfl⟩
  obtain ⟨A2, hA2⟩ : ∃ A2, (U * 4294967296 + u1) % 18446744073709551616 = A2 := ⟨_, rfl⟩
  obtain ⟨A3, hA3⟩ : ∃ A3, Q * Y % 18446744073709551616 = A3 := ⟨_, rfl⟩
  rw [hA1] at a1 a2
  rw [hA2] at a2 a4
  rw [hA3] at a3 a4
  clear hA1 hA2 hA3
  have t1 := tdivN UU d1
  have q1 : UU / d1 ≤ UU := Nat.div_le_self _ _
  have q2 := Nat.div_add_mod UU d1
  have q3 : UU % d1 < d1 := Nat.mod_lt _ D0.out
  have gg0 := zh (Dv.start (U := UU) (u1 := u0) (d1 := d1) (d0 := d0) D0.out b5)
  have t2 : IntKind.u64.wrap ((UU / d1 : Nat) : Int) = ((UU / d1 : Nat) : Int) := wrapN _ (by omega)
  have t3 : IntKind.u64.wrap (((UU / d1 : Nat) : Int) * (d1 : Int)) = ((d1 * (UU / d1) : Nat) : Int) := by
   rw [← Int.natCast_mul, Nat.mul_comm]; exact wrapN _ (by omega)
  have t4 : IntKind.u64.wrap ((UU : Int) - ((d1 * (UU / d1) : Nat) : Int)) = ((UU % d1 : Nat) : Int) := by
   rw [show (UU : Int) - ((d1 * (UU / d1) : Nat) : Int) = ((UU % d1 : Nat) : Int) by omega]; exact wrapN _ (by omega)
  generalize d1 * (UU / d1) = zz0 at *
  generalize UU / d1 = QQ0 at *
  generalize UU % d1 = RR0 at *
  have Q0b : QQ0 < 18446744073709551616 := by omega
  have R0b : RR0 < 4294967296 := by omega
  obtain ⟨QQ, hQQ⟩ : ∃ QQ, (UU * 4294967296 + u0) / (d1 * 4294967296 + d0) = QQ := ⟨_, rfl⟩
  have HQQ : Hid ((UU * 4294967296 + u0) / (d1 * 4294967296 + d0) = QQ) := zh hQQ
  have QQT : QQ < 4294967296 := by rw [← hQQ]; exact Dv.top UU0.out b5
  have HUU := zh uu2
  have BTH := zh BT
  clear hQQ hUU uM qM q2 q3 s3 u2 uu2 BT
  go_upto_block 2 with fail
  clear a1 a2 a3 a4 t1 t2 t3 t4 q1
  go_cut [18, 16] from 102 to 120 (fun s18 s16 wx => s18 = .int .u64 QQ ∧ (∃ r : Nat, s16 = .int .u64 r) ∧ wx = wc)
  case first =>
   go_wp2_with fail
   go_loopw [18, 16] (fun q r wr => ∃ q' r' : Nat, q = .int .u64 q' ∧ r = .int .u64 r' ∧ wr = wc ∧ q' < 18446744073709551616 ∧ r' < 4294967296 ∧ Hid (Dv.G UU u0 d1 d0 q' r')) (fun q _ _ => (intOf q).toNat)
   case atStart => exact ⟨QQ0, RR0, rfl, rfl, rfl, by omega, by omega, gg0⟩
   case round =>
    obtain ⟨q, r, rfl, rfl, rfl, hq, hr, g⟩ := hrel
    clear gg0
    obtain ⟨q2, hq2⟩ : ∃ q2, q - 1 = q2 := ⟨_, rfl⟩
    obtain ⟨r2, hr2⟩ : ∃ r2, r + d1 = r2 := ⟨_, rfl⟩
    have f2 : IntKind.u64.wrap ((r : Int) + (d1 : Int)) = (r2 : Int) := by
     rw [show (r : Int) + (d1 : Int) = (r2 : Int) by omega]; exact wrapN _ (by omega)
    by_cases c1 : 4294967296 ≤ q
    ·obtain ⟨q1, g'⟩ := g.out.down D0.out UU0.out b5 (.inl c1)
     rw [hq2, hr2] at g'
     have G' := zh g'
     clear g g'
     have f1 : IntKind.u64.wrap ((q : Int) - 1) = (q2 : Int) := by
      rw [show (q : Int) - 1 = (q2 : Int) by omega]; exact wrapN _ (by omega)
     have ql : q2 < q := by omega
     have qb : q2 < 18446744073709551616 := by omega
     clear hq2 q1
     by_cases c3 : 4294967296 ≤ r2
     ·have DN := zh ((G'.out.done2 D0.out UU0.out b3 c3).trans HQQ.out)
      clear hr2
      have C1 := zh c1
      have kd : decide ((4294967296 : Int) ≤ (q : Int)) = true := decide_eq_true (by omega)
      have C3 := zh c3
      have ke : decide ((4294967296 : Int) ≤ (r2 : Int)) = true := decide_eq_true (by omega)
      clear c1 c3
      go_wp2_with fail
      go_meet
      exact ⟨by rw [DN.out], ⟨_, rfl⟩, by first | rfl | trivial⟩
     ·clear hr2
      have C1 := zh c1
      have kd : decide ((4294967296 : Int) ≤ (q : Int)) = true := decide_eq_true (by omega)
      have C3 := zh c3
      have ke : decide ((4294967296 : Int) ≤ (r2 : Int)) = false := decide_eq_false (by omega)
      clear c1 c3
      go_wp2_with fail
      exact ⟨⟨q2, r2, rfl, rfl, by first | rfl | trivial, qb, by have := C3.out; omega, G'⟩, by simp [intOf]; omega⟩
    ·obtain ⟨m1, hm1⟩ : ∃ m1, q * d0 = m1 := ⟨_, rfl⟩
     have m1b : m1 < 18446744073709551616 := by
      rw [← hm1]; exact Nat.lt_of_le_of_lt (Nat.mul_le_mul (show q ≤ 4294967295 by omega) (show d0 ≤ 4294967295 by omega)) (by decide)
     have f3 : IntKind.u64.wrap ((q : Int) * (d0 : Int)) = (m1 : Int) := by
      rw [← Int.natCast_mul, hm1]; exact wrapN _ m1b
     obtain ⟨m2, hm2⟩ : ∃ m2, 4294967296 * r = m2 := ⟨_, rfl⟩
     have f4 : IntKind.u64.wrap (4294967296 * (r : Int)) = (m2 : Int) := by
      rw [show 4294967296 * (r : Int) = (m2 : Int) by omega]; exact wrapN _ (by omega)
     obtain ⟨m3, hm3⟩ : ∃ m3, m2 + u0 = m3 := ⟨_, rfl⟩
     have f5 : IntKind.u64.wrap ((m2 : Int) + (u0 : Int)) = (m3 : Int) := by
      rw [show (m2 : Int) + (u0 : Int) = (m3 : Int) by omega]; exact wrapN _ (by omega)
     by_cases c4 : m3 < m1
     ·obtain ⟨q1, g'⟩ := g.out.down D0.out UU0.out b5 (.inr (by rw [hm1]; omega))
      rw [hq2, hr2] at g'
      have G' := zh g'
      clear g g'
      have f1 : IntKind.u64.wrap ((q : Int) - 1) = (q2 : Int) := by
       rw [show (q : Int) - 1 = (q2 : Int) by omega]; exact wrapN _ (by omega)
      have ql : q2 < q := by omega
      have qb : q2 < 18446744073709551616 := by omega
      clear hq2 q1 hm1 hm2 hm3 m1b
      by_cases c3 : 4294967296 ≤ r2
      ·have DN := zh ((G'.out.done2 D0.out UU0.out b3 c3).trans HQQ.out)
       clear hr2
       have C1 := zh c1
       have kd : decide ((4294967296 : Int) ≤ (q : Int)) = false := decide_eq_false (by omega)
       have C3 := zh c3
       have ke : decide ((4294967296 : Int) ≤ (r2 : Int)) = true := decide_eq_true (by omega)
       clear c1 c3
       go_wp2_with fail
       go_meet
       exact ⟨by rw [DN.out], ⟨_, rfl⟩, by first | rfl | trivial⟩
      ·clear hr2
       have C1 := zh c1
       have kd : decide ((4294967296 : Int) ≤ (q : Int)) = false := decide_eq_false (by omega)
       have C3 := zh c3
       have ke : decide ((4294967296 : Int) ≤ (r2 : Int)) = false := decide_eq_false (by omega)
       clear c1 c3
       go_wp2_with fail
       exact ⟨⟨q2, r2, rfl, rfl, by first | rfl | trivial, qb, by have := C3.out; omega, G'⟩, by simp [intOf]; omega⟩
     ·have DN := zh ((g.out.done1 D0.out (by rw [hm1]; omega)).trans HQQ.out)
      clear hq2 hm1 hm2 hm3 m1b hr2 g
      have C1 := zh c1
      have kd : decide ((4294967296 : Int) ≤ (q : Int)) = false := decide_eq_false (by omega)
      clear c1
      go_wp2_with fail
      go_meet
      exact ⟨by rw [DN.out], ⟨_, rfl⟩, by first | rfl | trivial⟩
  case rest =>
   obtain ⟨rfl, ⟨r8, rfl⟩, rfl⟩ := hcut
   clear gg0 Q0b R0b
   have s3 := S3.out
   have uu2 := HUU.out
   obtain ⟨bt1, bt2⟩ := BTH.out
   have k2 := K2.out
   rw [← bt2] at k2
   have qM : QQ * Y ≤ UU * 4294967296 + u0 := by rw [EY.out, ← HQQ.out]; exact Nat.div_mul_le_self _ _
   have QL2 := Dv.left (M := UU * 4294967296 + u0) (y := Y)
   have e1 : (UU * 4294967296 + u0) / Y = QQ := by rw [EY.out]; exact HQQ.out
   rw [e1] at QL2 bt1
   rw [← QL2] at k2
   have rl : (UU * 4294967296 + u0) % Y < Y := Nat.mod_lt _ (by omega)
   rw [← QL2] at rl
   have a0 : IntKind.u64.wrap ((Q : Int) * 4294967296) = ((Q * 4294967296 : Nat) : Int) := by
    rw [IntKind.wrap_u64]; omega
   have a9 : IntKind.u64.wrap (((Q * 4294967296 : Nat) : Int) + (QQ : Int)) = ((Q * 4294967296 + QQ : Nat) : Int) := by
    rw [IntKind.wrap_u64]; omega
   have a1 : IntKind.u64.wrap ((UU : Int) * 4294967296) = ((UU * 4294967296 % 18446744073709551616 : Nat) : Int) := by
    rw [IntKind.wrap_u64, Int.natCast_emod, Int.natCast_mul]; rfl
   have a2 : IntKind.u64.wrap (((UU * 4294967296 % 18446744073709551616 : Nat) : Int) + (u0 : Int)) = (((UU * 4294967296 + u0) % 18446744073709551616 : Nat) : Int) := by
    rw [IntKind.wrap_u64]; omega
   have a3 : IntKind.u64.wrap ((QQ : Int) * (Y : Int)) = ((QQ * Y % 18446744073709551616 : Nat) : Int) := by
    rw [IntKind.wrap_u64, Int.natCast_emod, Int.natCast_mul]; rfl
   have a4 : IntKind.u64.wrap ((((UU * 4294967296 + u0) % 18446744073709551616 : Nat) : Int) - ((QQ * Y % 18446744073709551616 : Nat) : Int)) = ((UU * 4294967296 + u0 - QQ * Y : Nat) : Int) := by
    rw [IntKind.wrap_u64]
    clear bt1 QL2 e1
    generalize QQ * Y = QY at *
    omega
   obtain ⟨A0, hA0⟩ : ∃ A0, Q * 4294967296 = A0 := ⟨_, rfl⟩
   obtain ⟨A5, hA5⟩ : ∃ A5, Q * 4294967296 + QQ = A5 := ⟨_, rfl⟩
   obtain ⟨A1, hA1⟩ : ∃ A1, UU * 4294967296 % 18446744073709551616 = A1 := ⟨_, rfl⟩
   obtain ⟨A2, hA2⟩ : ∃ A2, (UU * 4294967296 + u0) % 18446744073709551616 = A2 := ⟨_, rfl⟩
   obtain ⟨A3, hA3⟩ : ∃ A3, QQ * Y % 18446744073709551616 = A3 := ⟨_, rfl⟩
   obtain ⟨A4, hA4⟩ : ∃ A4, UU * 4294967296 + u0 - QQ * Y = A4 := ⟨_, rfl⟩
   rw [hA5] at a9 bt1
   rw [hA0] at a0 a9
   rw [hA1] at a1 a2
   rw [hA2] at a2 a4
   rw [hA3] at a3 a4
   rw [hA4] at a4 k2
   have sm : min s 64 = s := by omega
   clear hA0 hA1 hA2 hA3 hA4 hA5 qM QL2 e1 rl s3 uu2 bt2
   have R1 := zh bt1
   have R2 := zh k2
   clear bt1 k2
   go_wp2_with fail
   go_ret2
   exact ⟨by rw [← R1.out, ← R2.out, Int.natCast_ediv, Int.natCast_pow]; rfl, 0, rfl⟩
end
section
open Go.ChangeShapes Go.WideShapes Go.ChangeAt Go.RowKit
attribute [local go_sem ↓] Go.wp_at_zero Go.wp_at_succ
theorem VF.neg {n d : Int} (h : VF n d) : VF (-n) d := ⟨h.d1, h.d2, by have := h.n2; omega, by have := h.n1; omega, by rw [Int.natAbs_neg]; exact h.g⟩
end
section
open Go.ChangeShapes Go.WideShapes Go.ChangeAt Go.RowKit
attribute [local go_sem ↓] Go.wp_at_zero Go.wp_at_succ
def tl (neg : Bool) (X g d1 d2 : Nat) : Int × Int × Int := lowF neg (X / Nat.gcd g (X % g)) ((d1 / g) * (d2 / Nat.gcd g (X % g)))
def sumP (an bn : Int) (P Q g y v : Nat) : Int × Int × Int :=
 if decide (an < 0) = decide (bn < 0) then tl (decide (an < 0)) (P + Q) g y v else if Q ≤ P then tl (decide (an < 0)) (P - Q) g y v else tl (decide (bn < 0)) (Q - P) g y v
theorem tl_tail {neg : Bool} {X g d1 d2 : Nat} (hg : 0 < g) (hX : X ≠ 0) : tl neg X g d1 d2 = tailF neg X g d1 d2 := by
 have hd : Nat.gcd (X % g) g ∣ X := by
  have := Nat.gcd_dvd_left X g
  rwa [Nat.gcd_comm X g, Nat.gcd_rec] at this
 unfold tl tailF
 rw [Nat.gcd_comm g]
 rw [if_neg]
 intro h
 have := Nat.div_mul_cancel hd
 rw [h] at this; omega
theorem tl_sym {neg : Bool} {X g d1 d2 : Nat} (hg : 0 < g) (h1 : g ∣ d1) (h2 : g ∣ d2) : tl neg X g d1 d2 = tl neg X g d2 d1 := by
 unfold tl
 have hd : Nat.gcd g (X % g) ∣ g := Nat.gcd_dvd_left _ _
 have hp : 0 < Nat.gcd g (X % g) := Nat.gcd_pos_of_pos_left _ hg
 generalize Nat.gcd g (X % g) = h at *
 obtain ⟨a, rfl⟩ := h1
 obtain ⟨b, rfl⟩ := h2
 obtain ⟨k, rfl⟩ := hd
 congr 1
 rw [Nat.mul_div_cancel_left _ hg, Nat.mul_div_cancel_left _ hg, Nat.mul_assoc, Nat.mul_assoc, Nat.mul_div_cancel_left _ hp, Nat.mul_div_cancel_left _ hp]
 grind
theorem same_one {x u y v g : Nat} (hg : 0 < g) (h1 : g ∣ y) (h2 : g ∣ v) (cy : Nat.gcd x y = 1) (cv : Nat.gcd u v = 1) (co : Nat.gcd (y / g) (v / g) = 1) (e : x * (v / g) = u * (y / g)) : y / g = 1 ∧ v / g = 1 := by
 have d1 : y / g ∣ y := Nat.div_dvd_of_dvd h1
 have d2 : v / g ∣ v := Nat.div_dvd_of_dvd h2
 have a1 : y / g ∣ x := Nat.Coprime.dvd_of_dvd_mul_right (show Nat.Coprime (y / g) (v / g) from co) (e ▸ Nat.dvd_mul_left _ _)
 have a2 : v / g ∣ u := Nat.Coprime.dvd_of_dvd_mul_right (show Nat.Coprime (v / g) (y / g) from Nat.Coprime.symm co) (e ▸ Nat.dvd_mul_left _ _)
 exact ⟨Nat.eq_one_of_dvd_one (cy ▸ Nat.dvd_gcd a1 d1), Nat.eq_one_of_dvd_one (cv ▸ Nat.dvd_gcd a2 d2)⟩
theorem tl_zero {neg : Bool} {g d1 d2 : Nat} (hg : 0 < g) (e1 : d1 / g = 1) (e2 : d2 / g = 1) : tl neg 0 g d1 d2 = (0, 1, 0) := by
 unfold tl
 rw [Nat.zero_mod, Nat.gcd_zero_right, Nat.zero_div, e1, e2, lowF_zero]
 simp [lowF]
theorem tailF_zero {neg : Bool} {g d1 d2 : Nat} : tailF neg 0 g d1 d2 = (0, 1, 0) := by
 unfold tailF
 rw [if_pos (Nat.zero_div _)]
theorem sumP_eq {an ad bn bd : Int} (va : VF an ad) (vb : VF bn bd) :
  sumP an bn (an.natAbs * (bd.natAbs / Nat.gcd ad.natAbs bd.natAbs)) (bn.natAbs * (ad.natAbs / Nat.gcd ad.natAbs bd.natAbs)) (Nat.gcd ad.natAbs bd.natAbs) ad.natAbs bd.natAbs = addF an ad bn bd := by
 have d1 := va.d1
 have hg : 0 < Nat.gcd ad.natAbs bd.natAbs := Nat.gcd_pos_of_pos_left _ (by omega)
 have so := fun e => same_one (x := an.natAbs) (u := bn.natAbs) hg (Nat.gcd_dvd_left _ _) (Nat.gcd_dvd_right _ _) va.g vb.g (Nat.coprime_div_gcd_div_gcd hg) e
 have h1 : Nat.gcd ad.natAbs bd.natAbs ∣ ad.natAbs := Nat.gcd_dvd_left _ _
 have h2 : Nat.gcd ad.natAbs bd.natAbs ∣ bd.natAbs := Nat.gcd_dvd_right _ _
 unfold addF addP sumP
 generalize Nat.gcd ad.natAbs bd.natAbs = g at *
 generalize ad.natAbs = y at *
 generalize bd.natAbs = v at *
 generalize an.natAbs * (v / g) = P at *
 generalize bn.natAbs * (y / g) = Q at *
 by_cases c : decide (an < 0) = decide (bn < 0)
 ·rw [if_pos c, if_pos c]
  by_cases z : P + Q = 0
  ·obtain ⟨o1, o2⟩ := so (by omega)
   rw [z, tl_zero hg o1 o2, tailF_zero]
  ·exact tl_tail hg z
 ·rw [if_neg c, if_neg c]
  by_cases l : Q ≤ P
  ·rw [if_pos l, if_neg (by omega)]
   by_cases z : P - Q = 0
   ·obtain ⟨o1, o2⟩ := so (by omega)
    rw [z, tl_zero hg o1 o2, tailF_zero]
   ·exact tl_tail hg z
  ·rw [if_neg l, if_pos (by omega), tl_sym hg h1 h2]
   exact tl_tail hg (by omega)
theorem div_small {hi lo h X : Nat} (h0 : 0 < h) (e : hi * 18446744073709551616 + lo = X) (hl : hi < h) (l : lo < 18446744073709551616) : X / h < 18446744073709551616 := by
 refine (Nat.div_lt_iff_lt_mul h0).2 ?_
 omega
theorem div_large {hi lo h X : Nat} (h0 : 0 < h) (e : hi * 18446744073709551616 + lo = X) (big : h ≤ hi) : 1000000000000000000 < X / h := by
 have : 18446744073709551616 ≤ X / h := (Nat.le_div_iff_mul_le h0).2 (by omega)
 omega
theorem add64_run (x y c : Nat) (hc : c ≤ 1) (w : World) : (callFunc 158 #[.int .u64 x, .int .u64 y, .int .u64 c]).run Tryz.prog w =
  .ok (.value (.tuple #[.int .u64 (((x + y + c) % 18446744073709551616 : Nat) : Int), .int .u64 (((x + y + c) / 18446744073709551616 : Nat) : Int)])) w := by
 rw [run_callFunc_extern Tryz.func158 (by kernel_rfl) (by kernel_rfl) (by kernel_rfl) (e := add64Entry) (by kernel_rfl), run_add64 x y c (by omega) (by omega) (by omega) (by omega)]
 simp only [Result.andThen]
 congr 5 <;> omega
theorem sub64_run (x y b : Nat) (hb : b ≤ 1) (w : World) : (callFunc 160 #[.int .u64 x, .int .u64 y, .int .u64 b]).run Tryz.prog w =
  .ok (.value (.tuple #[.int .u64 (((x + 18446744073709551616 - y - b) % 18446744073709551616 : Nat) : Int), .int .u64 ((if x < y + b then 1 else 0 : Nat) : Int)])) w := by
 rw [run_callFunc_extern Tryz.func160 (by kernel_rfl) (by kernel_rfl) (by kernel_rfl) (e := sub64Entry) (by kernel_rfl), run_sub64 x y b hb]
 rfl
theorem rem64_calls (hi lo y : Nat) (w : World) (h1 : 0 < y) (h2 : y < 18446744073709551616) (h3 : lo < 18446744073709551616) (h4 : hi < 18446744073709551616) :
  Calls Tryz.prog 161 #[.int .u64 hi, .int .u64 lo, .int .u64 y] w fun e w' => e = .returned (.int .u64 ((hi * 18446744073709551616 + lo) % y : Nat)) ∧ ∃ m, w' = w.drewN m := by
 have rl : hi % y < y := Nat.mod_lt _ h1
 have D := zh (fun W => div64_calls (hi % y) lo y W rl h2 h3)
 have e : (hi % y * 18446744073709551616 + lo) % y = (hi * 18446744073709551616 + lo) % y := by
  rw [Nat.add_mod, Nat.mul_mod, Nat.mod_mod, ← Nat.mul_mod, ← Nat.add_mod]
 rw [e] at D
 clear e
 have a1 : (hi : Int) % (y : Int) = ((hi % y : Nat) : Int) := (Int.natCast_emod hi y).symm
 have yn : ¬ y = 0 := by omega
 generalize hi % y = r at *
 generalize (hi * 18446744073709551616 + lo) % y = res at *
 generalize (r * 18446744073709551616 + lo) / y = qq at *
 go_enter Tryz.func161, Tryz.ntmps161
 go_wp2_with fail
 refine (D.out _).mono ?_
 rintro e w1 ⟨rfl, m, rfl⟩
 go_wp2_with fail
 go_ret
 exact ⟨rfl, m, rfl⟩
theorem sum_calls (an ad bn bd : Int) (w : World) (va : VF an ad) (vb : VF bn bd) :
  Calls Tryz.prog 147 #[Fv an ad, Fv bn bd] w fun e w' => e = .returned (Rv (addF an ad bn bd)) ∧ Below w.heap.size w w' := by
 have F := zh (sumP_eq va vb)
 generalize addF an ad bn bd = res at *
 have a1 := va.d1
 have a2 := va.d2
 have a3 := va.n1
 have a4 := va.n2
 have b1 := vb.d1
 have b2 := vb.d2
 have b3 := vb.n1
 have b4 := vb.n2
 clear va vb
 have S1 := zh (fun W => size_calls an W (by omega) (by omega))
 have S2 := zh (fun W => size_calls ad W (by omega) (by omega))
 have S3 := zh (fun W => size_calls bn W (by omega) (by omega))
 have S4 := zh (fun W => size_calls bd W (by omega) (by omega))
 have hx : an.natAbs ≤ 1000000000000000000 := by omega
 have hy : ad.natAbs ≤ 1000000000000000000 := by omega
 have hu : bn.natAbs ≤ 1000000000000000000 := by omega
 have hv : bd.natAbs ≤ 1000000000000000000 := by omega
 have hg0 : 0 < Nat.gcd ad.natAbs bd.natAbs := Nat.gcd_pos_of_pos_right _ (by omega)
 have hg1 : Nat.gcd ad.natAbs bd.natAbs ≤ bd.natAbs := Nat.gcd_le_right _ (by omega)
 generalize an.natAbs = x at *
 generalize ad.natAbs = y at *
 generalize bn.natAbs = u at *
 generalize bd.natAbs = v at *
 have G1 := zh (fun W => gcd_calls y v W (by omega) (by omega))
 generalize Nat.gcd y v = g at *
 have t3 := tdivN y g
 have t4 := tdivN v g
 have l3 : y / g ≤ 1000000000000000000 := Nat.le_trans (Nat.div_le_self _ _) hy
 have l4 : v / g ≤ 1000000000000000000 := Nat.le_trans (Nat.div_le_self _ _) hv
 obtain ⟨y1, hy1⟩ : ∃ y1, y / g = y1 := ⟨_, rfl⟩
 obtain ⟨v1, hv1⟩ : ∃ v1, v / g = v1 := ⟨_, rfl⟩
 rw [hy1] at t3 l3 F
 rw [hv1] at t4 l4 F
 have M1 := zh (fun W => mul64_calls x v1 W (by omega) (by omega))
 have M2 := zh (fun W => mul64_calls u y1 W (by omega) (by omega))
 have q1 : x * v1 ≤ 1000000000000000000000000000000000000 := Nat.mul_le_mul hx l4
 have q2 : u * y1 ≤ 1000000000000000000000000000000000000 := Nat.mul_le_mul hu l3
 generalize x * v1 = P at *
 generalize u * y1 = Q at *
 have p1 : P % 18446744073709551616 < 18446744073709551616 := Nat.mod_lt _ (by omega)
 have p2 : Q % 18446744073709551616 < 18446744073709551616 := Nat.mod_lt _ (by omega)
 have p3 := Nat.div_add_mod P 18446744073709551616
 have p4 := Nat.div_add_mod Q 18446744073709551616
 have WC := zh (fun W => wider_calls (P / 18446744073709551616) (P % 18446744073709551616) (Q / 18446744073709551616) (Q % 18446744073709551616) W p1 p2)
 rw [p3, p4] at WC
 generalize P / 18446744073709551616 = ah at *
 generalize P % 18446744073709551616 = al at *
 generalize Q / 18446744073709551616 = bh at *
 generalize Q % 18446744073709551616 = bl at *
 have P1 := zh p1
 have P2 := zh p2
 have P3 := zh p3
 have P4 := zh p4
 have Q1 := zh q1
 have Q2 := zh q2
 have HV := zh hv1
 clear p1 p2 p3 p4 q1 q2 hv1
 have gn : ¬ g = 0 := by omega
 have wy : IntKind.u64.wrap (y1 : Int) = (y1 : Int) := wrapN _ (by omega)
 have wv : IntKind.u64.wrap (v1 : Int) = (v1 : Int) := wrapN _ (by omega)
 have RES : Hid (∀ (neg : Bool) (X : Nat), tl neg X g y v = lowF neg (X / Nat.gcd g (X % g)) (y1 * (v / Nat.gcd g (X % g)))) := zh (fun neg X => by unfold tl; rw [hy1])
 clear hy1
 go_enter Tryz.func147, Tryz.ntmps147
 go_wp2_with fail
 go_quiet ((first | (go_at_call 106; (with_reducible exact quiet_left (S2.out _))) | (go_at_call 106; (with_reducible exact quiet_left (S4.out _)))))
 have K := zh ((PK.init w an ad bn bd).drewN nq)
 generalize (((w.alloc (.cells #[.int .i64 an, .int .i64 ad] 83)).alloc (.cells #[.int .i64 bn, .int .i64 bd] 83)).alloc (.cells #[.int .i64 0, .int .i64 0] 83)).drewN nq = W0 at *
 go_wp2_with fail
 refine (G1.out _).mono ?_
 rintro e w1 ⟨rfl, n1, rfl⟩
 replace K := zh (K.out.drewN n1)
 generalize W0.drewN n1 = W1 at *
 have a0 := blk_cell K.out.a 0 _ rfl
 have b0 := blk_cell K.out.b 0 _ rfl
 have la := blk_lt K.out.a
 have lb := blk_lt K.out.b
 go_wp2_with fail
 go_quiet ((first | (go_at_call 157; (with_reducible exact quiet_left (M1.out _))) | (go_at_call 106; (with_reducible exact quiet_left (S1.out _)))))
 clear a0 b0 la lb
 replace K := zh (K.out.drewN nq)
 generalize W1.drewN nq = W2 at *
 have a0 := blk_cell K.out.a 0 _ rfl
 have b0 := blk_cell K.out.b 0 _ rfl
 have la := blk_lt K.out.a
 have lb := blk_lt K.out.b
 go_wp2_with fail
 go_quiet ((first | (go_at_call 157; (with_reducible exact quiet_left (M2.out _))) | (go_at_call 106; (with_reducible exact quiet_left (S3.out _)))))
 clear a0 b0 la lb
 replace K := zh (K.out.drewN nq)
 generalize W2.drewN nq = W3 at *
 have a0 := blk_cell K.out.a 0 _ rfl
 have b0 := blk_cell K.out.b 0 _ rfl
 have la := blk_lt K.out.a
 have lb := blk_lt K.out.b
 clear S1 S2 S3 S4 G1 M1 M2
 by_cases c : decide (an < 0) = decide (bn < 0)
 ·have kc : (decide (an < 0) == decide (bn < 0)) = true := by rw [c]; exact beq_self_eq_true _
  have FX : res = tl (decide (an < 0)) (P + Q) g y v := by rw [← F.out]; unfold sumP; rw [if_pos c]
  have p1 := P1.out
  have p2 := P2.out
  have p3 := P3.out
  have p4 := P4.out
  have r1 := Q1.out
  have r2 := Q2.out
  obtain ⟨X, hX⟩ : ∃ X, P + Q = X := ⟨_, rfl⟩
  rw [hX] at FX
  obtain ⟨lo, hlo0⟩ : ∃ z, (al + bl + 0) % 18446744073709551616 = z := ⟨_, rfl⟩
  obtain ⟨k, hk0⟩ : ∃ z, (al + bl + 0) / 18446744073709551616 = z := ⟨_, rfl⟩
  obtain ⟨hi, hhi0⟩ : ∃ z, (ah + bh + k) % 18446744073709551616 = z := ⟨_, rfl⟩
  obtain ⟨k2, hk2⟩ : ∃ z, (ah + bh + k) / 18446744073709551616 = z := ⟨_, rfl⟩
  have HX : Hid (hi * 18446744073709551616 + lo = X) := zh (by omega)
  have hlo : lo < 18446744073709551616 := by omega
  have hhi : hi < 18446744073709551616 := by omega
  have E1 : ∀ W : World, (callFunc 158 #[.int .u64 al, .int .u64 bl, .int .u64 0]).run Tryz.prog W = .ok (.value (.tuple #[.int .u64 lo, .int .u64 k])) W := fun W => by
   have := add64_run al bl 0 (by omega) W
   rw [hlo0, hk0] at this
   exact this
  have E2 : ∀ W : World, (callFunc 158 #[.int .u64 ah, .int .u64 bh, .int .u64 k]).run Tryz.prog W = .ok (.value (.tuple #[.int .u64 hi, .int .u64 k2])) W := fun W => by
   have := add64_run ah bh k (by omega) W
   rw [hhi0, hk2] at this
   exact this
  clear hlo0 hk0 hhi0 hk2 hX p1 p2 p3 p4 r1 r2
  clear F WC P1 P2 P3 P4 Q1 Q2 c
  have RM := zh (fun W => rem64_calls hi lo g W hg0 (by omega) hlo hhi)
  rw [HX.out] at RM
  have xl : X % g < g := Nat.mod_lt _ hg0
  have G2 := zh (fun W => gcd_calls g (X % g) W (by omega) (by omega))
  have h0 : 0 < Nat.gcd g (X % g) := Nat.gcd_pos_of_pos_left _ hg0
  have h1 : Nat.gcd g (X % g) ≤ g := Nat.gcd_le_left _ hg0
  rw [RES.out] at FX
  generalize Nat.gcd g (X % g) = h at *
  generalize X % g = XR at *
  clear RES
  go_wp2_with fail
  refine (RM.out _).mono ?_
  rintro e w4 ⟨rfl, m, rfl⟩
  replace K := zh (K.out.drewN m)
  generalize W3.drewN m = W4 at *
  go_wp2_with fail
  refine (G2.out _).mono ?_
  rintro e w5 ⟨rfl, m, rfl⟩
  replace K := zh (K.out.drewN m)
  generalize W4.drewN m = W5 at *
  clear RM G2 xl
  by_cases big : h ≤ hi
  ·have FZ := zh (show res = (0, 0, 16) by
    rw [FX]; exact lowF_great (.inl (div_large h0 HX.out big)))
   clear FX HX
   have z0 := blk_cell K.out.z 0 _ rfl
   have z1 := blk_cell K.out.z 1 _ rfl
   have f0 := blk_frozen K.out.z 0
   have f1 := blk_frozen K.out.z 1
   go_wp2_with fail
   have e1 := blk_cell (blk_set (blk_set K.out.z 0 (.int .i64 0)) 1 (.int .i64 0)) 0 _ rfl
   have e2 := blk_cell (blk_set (blk_set K.out.z 0 (.int .i64 0)) 1 (.int .i64 0)) 1 _ rfl
   refine bodyPost_ret (v := .tuple #[Fv 0 0, .int .i64 16]) (by simp [results, Tryz.results147, go_sem, e1, e2]) rfl ⟨by rw [FZ.out], Bset1 (Bset1 K.out.n (by omega) _ _) (by omega) _ _⟩
  have DV := zh (fun W => div64_calls hi lo h W (by omega) (by omega) hlo)
  rw [HX.out] at DV
  have nb := div_small h0 HX.out (show hi < h by omega) hlo
  have t5 := tdivN v h
  have l5 : v / h ≤ 1000000000000000000 := Nat.le_trans (Nat.div_le_self _ _) hv
  generalize X / h = NU at *
  generalize X % h = XR2 at *
  generalize v / h = v2 at *
  have w5 : IntKind.u64.wrap (v2 : Int) = (v2 : Int) := wrapN _ (by omega)
  have hn : ¬ h = 0 := by omega
  have M3 := zh (fun W => mul64_calls y1 v2 W (by omega) (by omega))
  generalize y1 * v2 = D at *
  have dl : D % 18446744073709551616 < 18446744073709551616 := Nat.mod_lt _ (by omega)
  have BC := zh (fun W => build_calls (decide (an < 0)) NU (D % 18446744073709551616) W nb dl)
  have BIG : Hid (¬ D / 18446744073709551616 = 0 → res = (0, 0, 16)) := zh (fun hh => by rw [FX]; exact lowF_great (by omega))
  have SML : Hid (D / 18446744073709551616 = 0 → res = lowF (decide (an < 0)) NU (D % 18446744073709551616)) := zh (fun e1 => by rw [FX]; congr 1; omega)
  clear FX
  generalize D % 18446744073709551616 = d0 at *
  generalize D / 18446744073709551616 = d1 at *
  have bg : ¬ h ≤ hi := big
  go_wp2_with fail
  refine (DV.out _).mono ?_
  rintro e w6 ⟨rfl, m, rfl⟩
  replace K := zh (K.out.drewN m)
  generalize W5.drewN m = W6 at *
  clear DV
  go_wp2_with fail
  go_quiet ((go_at_call 157; (with_reducible exact quiet_left (M3.out _))))
  replace K := zh (K.out.drewN nq)
  generalize W6.drewN nq = W7 at *
  clear t3 t4 t5 w5 wy wv
  by_cases c2 : d1 = 0
  ·have c2' : ((d1 : Int) != 0) = false := by rw [c2]; rfl
   have F2 := zh (SML.out c2)
   clear SML BIG c2
   generalize lowF (decide (an < 0)) NU d0 = r at *
   obtain ⟨r1, r2, r3⟩ := r
   have z0 := blk_cell K.out.z 0 _ rfl
   have z1 := blk_cell K.out.z 1 _ rfl
   have f0 := blk_frozen K.out.z 0
   have f1 := blk_frozen K.out.z 1
   go_wp2_with fail
   refine (BC.out _).mono ?_
   rintro e w8 ⟨rfl, hb⟩
   replace K := zh (K.out.next hb)
   clear z0 z1 f0 f1
   clear hb
   have z0 := blk_cell K.out.z 0 _ rfl
   have z1 := blk_cell K.out.z 1 _ rfl
   have f0 := blk_frozen K.out.z 0
   have f1 := blk_frozen K.out.z 1
   go_wp2_with fail
   have e1 := blk_cell (blk_set (blk_set K.out.z 0 (.int .i64 r1)) 1 (.int .i64 r2)) 0 _ rfl
   have e2 := blk_cell (blk_set (blk_set K.out.z 0 (.int .i64 r1)) 1 (.int .i64 r2)) 1 _ rfl
   refine bodyPost_ret (v := .tuple #[Fv r1 r2, .int .i64 r3]) (by simp [results, Tryz.results147, go_sem, e1, e2]) rfl ⟨by rw [F2.out], Bset1 (Bset1 K.out.n (by omega) _ _) (by omega) _ _⟩
  ·have c2' : ((d1 : Int) != 0) = true := by rw [bne_iff_ne]; omega
   have F2 := zh (BIG.out c2)
   clear SML BIG c2
   have z0 := blk_cell K.out.z 0 _ rfl
   have z1 := blk_cell K.out.z 1 _ rfl
   have f0 := blk_frozen K.out.z 0
   have f1 := blk_frozen K.out.z 1
   go_wp2_with fail
   have e1 := blk_cell (blk_set (blk_set K.out.z 0 (.int .i64 0)) 1 (.int .i64 0)) 0 _ rfl
   have e2 := blk_cell (blk_set (blk_set K.out.z 0 (.int .i64 0)) 1 (.int .i64 0)) 1 _ rfl
   refine bodyPost_ret (v := .tuple #[Fv 0 0, .int .i64 16]) (by simp [results, Tryz.results147, go_sem, e1, e2]) rfl ⟨by rw [F2.out], Bset1 (Bset1 K.out.n (by omega) _ _) (by omega) _ _⟩
 ·have kc : (decide (an < 0) == decide (bn < 0)) = false := by rw [beq_eq_false_iff_ne]; exact c
  obtain ⟨cc, hcc⟩ : ∃ cc, cmpI (P : Int) (Q : Int) = cc := ⟨_, rfl⟩
  rw [hcc] at WC
  by_cases le : Q ≤ P
  ·have kl : decide ((0 : Int) ≤ cc) = true := decide_eq_true (by rw [← hcc]; unfold cmpI; split <;> (try split) <;> omega)
   have FX : res = tl (decide (an < 0)) (P - Q) g y v := by rw [← F.out]; unfold sumP; rw [if_neg c, if_pos le]
   have p1 := P1.out
   have p2 := P2.out
   have p3 := P3.out
   have p4 := P4.out
   have r1 := Q1.out
   have r2 := Q2.out
   obtain ⟨X, hX⟩ : ∃ X, P - Q = X := ⟨_, rfl⟩
   rw [hX] at FX
   obtain ⟨lo, hlo0⟩ : ∃ z, (al + 18446744073709551616 - bl - 0) % 18446744073709551616 = z := ⟨_, rfl⟩
   obtain ⟨k, hk0⟩ : ∃ z, (if al < bl + 0 then 1 else 0) = z := ⟨_, rfl⟩
   obtain ⟨hi, hhi0⟩ : ∃ z, (ah + 18446744073709551616 - bh - k) % 18446744073709551616 = z := ⟨_, rfl⟩
   obtain ⟨k2, hk2⟩ : ∃ z, (if ah < bh + k then 1 else 0) = z := ⟨_, rfl⟩
   have kk : (k = 1 ∧ al < bl) ∨ (k = 0 ∧ bl ≤ al) := by rw [← hk0]; split <;> omega
   have HX : Hid (hi * 18446744073709551616 + lo = X) := zh (by omega)
   have hlo : lo < 18446744073709551616 := by omega
   have hhi : hi < 18446744073709551616 := by omega
   have E1 : ∀ W : World, (callFunc 160 #[.int .u64 al, .int .u64 bl, .int .u64 0]).run Tryz.prog W = .ok (.value (.tuple #[.int .u64 lo, .int .u64 k])) W := fun W => by
    have := sub64_run al bl 0 (by omega) W
    rw [hlo0, hk0] at this
    exact this
   have E2 : ∀ W : World, (callFunc 160 #[.int .u64 ah, .int .u64 bh, .int .u64 k]).run Tryz.prog W = .ok (.value (.tuple #[.int .u64 hi, .int .u64 k2])) W := fun W => by
    have := sub64_run ah bh k (by omega) W
    rw [hhi0, hk2] at this
    exact this
   clear hlo0 hk0 hhi0 hk2 hX p1 p2 p3 p4 r1 r2 kk
   clear F P1 P2 P3 P4 Q1 Q2 c le hcc
   go_wp2_with fail
   refine (WC.out _).mono ?_
   rintro e w9 ⟨rfl, rfl⟩
   clear WC
   have RM := zh (fun W => rem64_calls hi lo g W hg0 (by omega) hlo hhi)
   rw [HX.out] at RM
   have xl : X % g < g := Nat.mod_lt _ hg0
   have G2 := zh (fun W => gcd_calls g (X % g) W (by omega) (by omega))
   have h0 : 0 < Nat.gcd g (X % g) := Nat.gcd_pos_of_pos_left _ hg0
   have h1 : Nat.gcd g (X % g) ≤ g := Nat.gcd_le_left _ hg0
   rw [RES.out] at FX
   generalize Nat.gcd g (X % g) = h at *
   generalize X % g = XR at *
   clear RES
   go_wp2_with fail
   refine (RM.out _).mono ?_
   rintro e w4 ⟨rfl, m, rfl⟩
   replace K := zh (K.out.drewN m)
   generalize W3.drewN m = W4 at *
   go_wp2_with fail
   refine (G2.out _).mono ?_
   rintro e w5 ⟨rfl, m, rfl⟩
   replace K := zh (K.out.drewN m)
   generalize W4.drewN m = W5 at *
   clear RM G2 xl
   by_cases big : h ≤ hi
   ·have FZ := zh (show res = (0, 0, 16) by
     rw [FX]; exact lowF_great (.inl (div_large h0 HX.out big)))
    clear FX HX
    have z0 := blk_cell K.out.z 0 _ rfl
    have z1 := blk_cell K.out.z 1 _ rfl
    have f0 := blk_frozen K.out.z 0
    have f1 := blk_frozen K.out.z 1
    go_wp2_with fail
    have e1 := blk_cell (blk_set (blk_set K.out.z 0 (.int .i64 0)) 1 (.int .i64 0)) 0 _ rfl
    have e2 := blk_cell (blk_set (blk_set K.out.z 0 (.int .i64 0)) 1 (.int .i64 0)) 1 _ rfl
    refine bodyPost_ret (v := .tuple #[Fv 0 0, .int .i64 16]) (by simp [results, Tryz.results147, go_sem, e1, e2]) rfl ⟨by rw [FZ.out], Bset1 (Bset1 K.out.n (by omega) _ _) (by omega) _ _⟩
   have DV := zh (fun W => div64_calls hi lo h W (by omega) (by omega) hlo)
   rw [HX.out] at DV
   have nb := div_small h0 HX.out (show hi < h by omega) hlo
   have t5 := tdivN v h
   have l5 : v / h ≤ 1000000000000000000 := Nat.le_trans (Nat.div_le_self _ _) hv
   generalize X / h = NU at *
   generalize X % h = XR2 at *
   generalize v / h = v2 at *
   have w5 : IntKind.u64.wrap (v2 : Int) = (v2 : Int) := wrapN _ (by omega)
   have hn : ¬ h = 0 := by omega
   have M3 := zh (fun W => mul64_calls y1 v2 W (by omega) (by omega))
   generalize y1 * v2 = D at *
   have dl : D % 18446744073709551616 < 18446744073709551616 := Nat.mod_lt _ (by omega)
   have BC := zh (fun W => build_calls (decide (an < 0)) NU (D % 18446744073709551616) W nb dl)
   have BIG : Hid (¬ D / 18446744073709551616 = 0 → res = (0, 0, 16)) := zh (fun hh => by rw [FX]; exact lowF_great (by omega))
   have SML : Hid (D / 18446744073709551616 = 0 → res = lowF (decide (an < 0)) NU (D % 18446744073709551616)) := zh (fun e1 => by rw [FX]; congr 1; omega)
   clear FX
   generalize D % 18446744073709551616 = d0 at *
   generalize D / 18446744073709551616 = d1 at *
   have bg : ¬ h ≤ hi := big
   go_wp2_with fail
   refine (DV.out _).mono ?_
   rintro e w6 ⟨rfl, m, rfl⟩
   replace K := zh (K.out.drewN m)
   generalize W5.drewN m = W6 at *
   clear DV
   go_wp2_with fail
   go_quiet ((go_at_call 157; (with_reducible exact quiet_left (M3.out _))))
   replace K := zh (K.out.drewN nq)
   generalize W6.drewN nq = W7 at *
   clear t3 t4 t5 w5 wy wv
   by_cases c2 : d1 = 0
   ·have c2' : ((d1 : Int) != 0) = false := by rw [c2]; rfl
    have F2 := zh (SML.out c2)
    clear SML BIG c2
    generalize lowF (decide (an < 0)) NU d0 = r at *
    obtain ⟨r1, r2, r3⟩ := r
    have z0 := blk_cell K.out.z 0 _ rfl
    have z1 := blk_cell K.out.z 1 _ rfl
    have f0 := blk_frozen K.out.z 0
    have f1 := blk_frozen K.out.z 1
    go_wp2_with fail
    refine (BC.out _).mono ?_
    rintro e w8 ⟨rfl, hb⟩
    replace K := zh (K.out.next hb)
    clear z0 z1 f0 f1
    clear hb
    have z0 := blk_cell K.out.z 0 _ rfl
    have z1 := blk_cell K.out.z 1 _ rfl
    have f0 := blk_frozen K.out.z 0
    have f1 := blk_frozen K.out.z 1
    go_wp2_with fail
    have e1 := blk_cell (blk_set (blk_set K.out.z 0 (.int .i64 r1)) 1 (.int .i64 r2)) 0 _ rfl
    have e2 := blk_cell (blk_set (blk_set K.out.z 0 (.int .i64 r1)) 1 (.int .i64 r2)) 1 _ rfl
    refine bodyPost_ret (v := .tuple #[Fv r1 r2, .int .i64 r3]) (by simp [results, Tryz.results147, go_sem, e1, e2]) rfl ⟨by rw [F2.out], Bset1 (Bset1 K.out.n (by omega) _ _) (by omega) _ _⟩
   ·have c2' : ((d1 : Int) != 0) = true := by rw [bne_iff_ne]; omega
    have F2 := zh (BIG.out c2)
    clear SML BIG c2
    have z0 := blk_cell K.out.z 0 _ rfl
    have z1 := blk_cell K.out.z 1 _ rfl
    have f0 := blk_frozen K.out.z 0
    have f1 := blk_frozen K.out.z 1
    go_wp2_with fail
    have e1 := blk_cell (blk_set (blk_set K.out.z 0 (.int .i64 0)) 1 (.int .i64 0)) 0 _ rfl
    have e2 := blk_cell (blk_set (blk_set K.out.z 0 (.int .i64 0)) 1 (.int .i64 0)) 1 _ rfl
    refine bodyPost_ret (v := .tuple #[Fv 0 0, .int .i64 16]) (by simp [results, Tryz.results147, go_sem, e1, e2]) rfl ⟨by rw [F2.out], Bset1 (Bset1 K.out.n (by omega) _ _) (by omega) _ _⟩
  ·have kl : decide ((0 : Int) ≤ cc) = false := decide_eq_false (by rw [← hcc]; unfold cmpI; split <;> (try split) <;> omega)
   have FX : res = tl (decide (bn < 0)) (Q - P) g y v := by rw [← F.out]; unfold sumP; rw [if_neg c, if_neg le]
   have p1 := P1.out
   have p2 := P2.out
   have p3 := P3.out
   have p4 := P4.out
   have r1 := Q1.out
   have r2 := Q2.out
   obtain ⟨X, hX⟩ : ∃ X, Q - P = X := ⟨_, rfl⟩
   rw [hX] at FX
   obtain ⟨lo, hlo0⟩ : ∃ z, (bl + 18446744073709551616 - al - 0) % 18446744073709551616 = z := ⟨_, rfl⟩
   obtain ⟨k, hk0⟩ : ∃ z, (if bl < al + 0 then 1 else 0) = z := ⟨_, rfl⟩
   obtain ⟨hi, hhi0⟩ : ∃ z, (bh + 18446744073709551616 - ah - k) % 18446744073709551616 = z := ⟨_, rfl⟩
   obtain ⟨k2, hk2⟩ : ∃ z, (if bh < ah + k then 1 else 0) = z := ⟨_, rfl⟩
   have kk : (k = 1 ∧ bl < al) ∨ (k = 0 ∧ al ≤ bl) := by rw [← hk0]; split <;> omega
   have HX : Hid (hi * 18446744073709551616 + lo = X) := zh (by omega)
   have hlo : lo < 18446744073709551616 := by omega
   have hhi : hi < 18446744073709551616 := by omega
   have E1 : ∀ W : World, (callFunc 160 #[.int .u64 bl, .int .u64 al, .int .u64 0]).run Tryz.prog W = .ok (.value (.tuple #[.int .u64 lo, .int .u64 k])) W := fun W => by
    have := sub64_run bl al 0 (by omega) W
    rw [hlo0, hk0] at this
    exact this
   have E2 : ∀ W : World, (callFunc 160 #[.int .u64 bh, .int .u64 ah, .int .u64 k]).run Tryz.prog W = .ok (.value (.tuple #[.int .u64 hi, .int .u64 k2])) W := fun W => by
    have := sub64_run bh ah k (by omega) W
    rw [hhi0, hk2] at this
    exact this
   clear hlo0 hk0 hhi0 hk2 hX p1 p2 p3 p4 r1 r2 kk
   clear F P1 P2 P3 P4 Q1 Q2 c le hcc
   go_wp2_with fail
   refine (WC.out _).mono ?_
   rintro e w9 ⟨rfl, rfl⟩
   clear WC
   have RM := zh (fun W => rem64_calls hi lo g W hg0 (by omega) hlo hhi)
   rw [HX.out] at RM
   have xl : X % g < g := Nat.mod_lt _ hg0
   have G2 := zh (fun W => gcd_calls g (X % g) W (by omega) (by omega))
   have h0 : 0 < Nat.gcd g (X % g) := Nat.gcd_pos_of_pos_left _ hg0
   have h1 : Nat.gcd g (X % g) ≤ g := Nat.gcd_le_left _ hg0
   rw [RES.out] at FX
   generalize Nat.gcd g (X % g) = h at *
   generalize X % g = XR at *
   clear RES
   go_wp2_with fail
   refine (RM.out _).mono ?_
   rintro e w4 ⟨rfl, m, rfl⟩
   replace K := zh (K.out.drewN m)
   generalize W3.drewN m = W4 at *
   go_wp2_with fail
   refine (G2.out _).mono ?_
   rintro e w5 ⟨rfl, m, rfl⟩
   replace K := zh (K.out.drewN m)
   generalize W4.drewN m = W5 at *
   clear RM G2 xl
   by_cases big : h ≤ hi
   ·have FZ := zh (show res = (0, 0, 16) by
     rw [FX]; exact lowF_great (.inl (div_large h0 HX.out big)))
    clear FX HX
    have z0 := blk_cell K.out.z 0 _ rfl
    have z1 := blk_cell K.out.z 1 _ rfl
    have f0 := blk_frozen K.out.z 0
    have f1 := blk_frozen K.out.z 1
    go_wp2_with fail
    have e1 := blk_cell (blk_set (blk_set K.out.z 0 (.int .i64 0)) 1 (.int .i64 0)) 0 _ rfl
    have e2 := blk_cell (blk_set (blk_set K.out.z 0 (.int .i64 0)) 1 (.int .i64 0)) 1 _ rfl
    refine bodyPost_ret (v := .tuple #[Fv 0 0, .int .i64 16]) (by simp [results, Tryz.results147, go_sem, e1, e2]) rfl ⟨by rw [FZ.out], Bset1 (Bset1 K.out.n (by omega) _ _) (by omega) _ _⟩
   have DV := zh (fun W => div64_calls hi lo h W (by omega) (by omega) hlo)
   rw [HX.out] at DV
   have nb := div_small h0 HX.out (show hi < h by omega) hlo
   have t5 := tdivN v h
   have l5 : v / h ≤ 1000000000000000000 := Nat.le_trans (Nat.div_le_self _ _) hv
   generalize X / h = NU at *
   generalize X % h = XR2 at *
   generalize v / h = v2 at *
   have w5 : IntKind.u64.wrap (v2 : Int) = (v2 : Int) := wrapN _ (by omega)
   have hn : ¬ h = 0 := by omega
   have M3 := zh (fun W => mul64_calls y1 v2 W (by omega) (by omega))
   generalize y1 * v2 = D at *
   have dl : D % 18446744073709551616 < 18446744073709551616 := Nat.mod_lt _ (by omega)
   have BC := zh (fun W => build_calls (decide (bn < 0)) NU (D % 18446744073709551616) W nb dl)
   have BIG : Hid (¬ D / 18446744073709551616 = 0 → res = (0, 0, 16)) := zh (fun hh => by rw [FX]; exact lowF_great (by omega))
   have SML : Hid (D / 18446744073709551616 = 0 → res = lowF (decide (bn < 0)) NU (D % 18446744073709551616)) := zh (fun e1 => by rw [FX]; congr 1; omega)
   clear FX
   generalize D % 18446744073709551616 = d0 at *
   generalize D / 18446744073709551616 = d1 at *
   have bg : ¬ h ≤ hi := big
   go_wp2_with fail
   refine (DV.out _).mono ?_
   rintro e w6 ⟨rfl, m, rfl⟩
   replace K := zh (K.out.drewN m)
   generalize W5.drewN m = W6 at *
   clear DV
   go_wp2_with fail
   go_quiet ((go_at_call 157; (with_reducible exact quiet_left (M3.out _))))
   replace K := zh (K.out.drewN nq)
   generalize W6.drewN nq = W7 at *
   clear t3 t4 t5 w5 wy wv
   by_cases c2 : d1 = 0
   ·have c2' : ((d1 : Int) != 0) = false := by rw [c2]; rfl
    have F2 := zh (SML.out c2)
    clear SML BIG c2
    generalize lowF (decide (bn < 0)) NU d0 = r at *
    obtain ⟨r1, r2, r3⟩ := r
    have z0 := blk_cell K.out.z 0 _ rfl
    have z1 := blk_cell K.out.z 1 _ rfl
    have f0 := blk_frozen K.out.z 0
    have f1 := blk_frozen K.out.z 1
    go_wp2_with fail
    refine (BC.out _).mono ?_
    rintro e w8 ⟨rfl, hb⟩
    replace K := zh (K.out.next hb)
    clear z0 z1 f0 f1
    clear hb
    have z0 := blk_cell K.out.z 0 _ rfl
    have z1 := blk_cell K.out.z 1 _ rfl
    have f0 := blk_frozen K.out.z 0
    have f1 := blk_frozen K.out.z 1
    go_wp2_with fail
    have e1 := blk_cell (blk_set (blk_set K.out.z 0 (.int .i64 r1)) 1 (.int .i64 r2)) 0 _ rfl
    have e2 := blk_cell (blk_set (blk_set K.out.z 0 (.int .i64 r1)) 1 (.int .i64 r2)) 1 _ rfl
    refine bodyPost_ret (v := .tuple #[Fv r1 r2, .int .i64 r3]) (by simp [results, Tryz.results147, go_sem, e1, e2]) rfl ⟨by rw [F2.out], Bset1 (Bset1 K.out.n (by omega) _ _) (by omega) _ _⟩
   ·have c2' : ((d1 : Int) != 0) = true := by rw [bne_iff_ne]; omega
    have F2 := zh (BIG.out c2)
    clear SML BIG c2
    have z0 := blk_cell K.out.z 0 _ rfl
    have z1 := blk_cell K.out.z 1 _ rfl
    have f0 := blk_frozen K.out.z 0
    have f1 := blk_frozen K.out.z 1
    go_wp2_with fail
    have e1 := blk_cell (blk_set (blk_set K.out.z 0 (.int .i64 0)) 1 (.int .i64 0)) 0 _ rfl
    have e2 := blk_cell (blk_set (blk_set K.out.z 0 (.int .i64 0)) 1 (.int .i64 0)) 1 _ rfl
    refine bodyPost_ret (v := .tuple #[Fv 0 0, .int .i64 16]) (by simp [results, Tryz.results147, go_sem, e1, e2]) rfl ⟨by rw [F2.out], Bset1 (Bset1 K.out.n (by omega) _ _) (by omega) _ _⟩
end
section
open Go.ChangeShapes Go.WideShapes Go.ChangeAt Go.RowKit
attribute [local go_sem ↓] Go.wp_at_zero Go.wp_at_succ
theorem Rd.num {w : World} {A : Option Addr} {L : List Int} (h : Rd w 1 A L.length (lv L)) {i : Nat} (hi : i < L.length) : ∃ b off, A = some ⟨b, off, none⟩ ∧ b < w.heap.size ∧ w.cell? ⟨b, off + i, none⟩ = some (.int .i64 L[i]) := by
 obtain ⟨b, off, e, hl, hc⟩ := h.2 (by omega)
 exact ⟨b, off, e, hl, hc i _ (lv_get (List.getElem?_eq_getElem hi))⟩
end
section
open Go.ChangeShapes Go.WideShapes Go.ChangeAt Go.RowKit
attribute [local go_sem ↓] Go.wp_at_zero Go.wp_at_succ
theorem add_calls (an ad bn bd : Int) (w : World) :
  Calls Tryz.prog 128 #[Fv an ad, Fv bn bd] w fun e w' => e = .returned (Rv (addR an ad bn bd)) ∧ Below w.heap.size w w' := by
 have C1 := zh (fun W => both_calls an ad bn bd W)
 by_cases ck : errB an ad bn bd = 0
 rotate_left
 ·have F : Hid (addR an ad bn bd = (0, 0, errB an ad bn bd)) := zh (by unfold addR; rw [if_neg ck])
  have ck' : (errB an ad bn bd != 0) = true := by rw [bne_iff_ne]; exact ck
  generalize addR an ad bn bd = res at *
  generalize errB an ad bn bd = er at *
  clear ck
  go_enter Tryz.func128, Tryz.ntmps128
  go_wp2_with fail
  refine (C1.out _).mono ?_
  rintro e w1 ⟨rfl, hb⟩
  have K := zh ((PK.init w an ad bn bd).next hb)
  clear hb
  have z0 := blk_cell K.out.z 0 _ rfl
  have z1 := blk_cell K.out.z 1 _ rfl
  have f0 := blk_frozen K.out.z 0
  have f1 := blk_frozen K.out.z 1
  go_wp2_with fail
  have e1 := blk_cell (blk_set (blk_set K.out.z 0 (.int .i64 0)) 1 (.int .i64 0)) 0 _ rfl
  have e2 := blk_cell (blk_set (blk_set K.out.z 0 (.int .i64 0)) 1 (.int .i64 0)) 1 _ rfl
  refine bodyPost_ret (v := .tuple #[Fv 0 0, .int .i64 er]) (by simp [results, Tryz.results128, go_sem, e1, e2]) rfl ⟨by rw [F.out], Bset1 (Bset1 K.out.n (by omega) _ _) (by omega) _ _⟩
 ·have F : Hid (addR an ad bn bd = addF an ad bn bd) := zh (by unfold addR; rw [if_pos ck])
  obtain ⟨va, vb⟩ := errB_ok ck
  rw [ck] at C1
  have PC := zh (fun W => sum_calls an ad bn bd W va vb)
  generalize addR an ad bn bd = res at *
  generalize addF an ad bn bd = r at *
  obtain ⟨r1, r2, r3⟩ := r
  have n1 := vb.n1
  have n2 := vb.n2
  clear ck va vb
  go_enter Tryz.func128, Tryz.ntmps128
  go_wp2_with fail
  refine (C1.out _).mono ?_
  rintro e w1 ⟨rfl, hb⟩
  have K := zh ((PK.init w an ad bn bd).next hb)
  clear hb
  have a0 := blk_cell K.out.a 0 _ rfl
  have a1 := blk_cell K.out.a 1 _ rfl
  have b0 := blk_cell K.out.b 0 _ rfl
  have b1 := blk_cell K.out.b 1 _ rfl
  go_wp2_with fail
  refine (PC.out _).mono ?_
  rintro e w2 ⟨rfl, hb⟩
  replace K := zh (K.out.next hb)
  clear hb
  clear a0 a1 b0 b1
  have z0 := blk_cell K.out.z 0 _ rfl
  have z1 := blk_cell K.out.z 1 _ rfl
  have f0 := blk_frozen K.out.z 0
  have f1 := blk_frozen K.out.z 1
  go_wp2_with fail
  have e1 := blk_cell (blk_set (blk_set K.out.z 0 (.int .i64 r1)) 1 (.int .i64 r2)) 0 _ rfl
  have e2 := blk_cell (blk_set (blk_set K.out.z 0 (.int .i64 r1)) 1 (.int .i64 r2)) 1 _ rfl
  refine bodyPost_ret (v := .tuple #[Fv r1 r2, .int .i64 r3]) (by simp [results, Tryz.results128, go_sem, e1, e2]) rfl ⟨by rw [F.out], Bset1 (Bset1 K.out.n (by omega) _ _) (by omega) _ _⟩
end
end Go.Proofs.YtbbnkclajpaghaaGreatDoor
