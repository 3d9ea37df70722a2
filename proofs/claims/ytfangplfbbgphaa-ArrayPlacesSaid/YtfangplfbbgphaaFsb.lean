/- Contracts of layer 1: Len64, LeadingZeros64 (off the kit's shelf), Div64, Rem64. -/
import Derived.Test.YtfangplfbbgphaaFsa
import Derived.Test.YtfangplfbbgphaaFsc
import Derived.Test.YtfangplfbbgphaaFrh
import Derived.Deep.DeepCutAuto
import Derived.Deep.CutBlock
import Derived.Lib.Strings
import Derived.Lib.Slices
import Derived.Lib.Small
import Derived.Lib.Walk
import Derived.Lib.BitFns
namespace Go.Proofs.Ytfangplfbbgphaa
open Go.ChangeShapes Go.WideShapes Go.ChangeAt Go.RowKit
set_option linter.unusedVariables false
set_option maxRecDepth 100000
attribute [local go_sem ↓] Go.wp_at_zero Go.wp_at_succ
theorem bitLen_pow : ∀ (n x : Nat), x < 2 ^ n → 0 < x → n ≤ 64 → 2 ^ (Lib.bitLen x - 1) ≤ x ∧ x < 2 ^ Lib.bitLen x := by
  intro n
  induction n with
  | zero => intro x h h0 _; simp at h; omega
  | succ n ih =>
    intro x h h0 hn
    have h64 : x < 2 ^ 64 := Nat.lt_of_lt_of_le h (Nat.pow_le_pow_right (by decide) hn)
    rw [Lib.bitLen_half x (by omega) h64]
    by_cases c : x / 2 = 0
    · rw [c]
      have : Lib.bitLen 0 = 0 := by decide
      rw [this]; simp; omega
    · obtain ⟨a, b⟩ := ih (x / 2) (by rw [Nat.pow_succ] at h; omega) (by omega) (by omega)
      have p : 1 ≤ Lib.bitLen (x / 2) := by
        rcases Nat.eq_zero_or_pos (Lib.bitLen (x / 2)) with e | e
        · rw [e] at b; simp at b; omega
        · exact e
      rw [show 1 + Lib.bitLen (x / 2) - 1 = (Lib.bitLen (x / 2) - 1) + 1 by omega, show 1 + Lib.bitLen (x / 2) = Lib.bitLen (x / 2) + 1 by omega, Nat.pow_succ, Nat.pow_succ]
      omega
/- the number of bits by which a divisor is moved -/
theorem lead {y : Nat} (h0 : 0 < y) (h : y < 18446744073709551616) : ∃ s : Nat, s ≤ 63 ∧ 64 - (Lib.bitLen y : Int) = (s : Int) ∧ y * 2 ^ s < 18446744073709551616 ∧ 9223372036854775808 ≤ y * 2 ^ s := by
  obtain ⟨a, b⟩ := bitLen_pow 64 y h h0 (by omega)
  have l := bitLen_le64 (y : Int) (by omega) (by omega)
  rw [Int.toNat_natCast] at l
  have p : 1 ≤ Lib.bitLen y := by
    rcases Nat.eq_zero_or_pos (Lib.bitLen y) with e | e
    · rw [e] at b; simp at b; omega
    · exact e
  refine ⟨64 - Lib.bitLen y, by omega, by omega, ?_, ?_⟩
  · have : 18446744073709551616 = 2 ^ Lib.bitLen y * 2 ^ (64 - Lib.bitLen y) := by rw [← Nat.pow_add, show Lib.bitLen y + (64 - Lib.bitLen y) = 64 by omega]
    rw [this]; exact Nat.mul_lt_mul_of_pos_right b (Nat.two_pow_pos _)
  · have : 9223372036854775808 = 2 ^ (Lib.bitLen y - 1) * 2 ^ (64 - Lib.bitLen y) := by rw [← Nat.pow_add, show Lib.bitLen y - 1 + (64 - Lib.bitLen y) = 63 by omega]
    rw [this]; exact Nat.mul_le_mul_right _ a
theorem or_shift {a b s : Nat} (h : b < 2 ^ s) (h64 : a * 2 ^ s + b < 18446744073709551616) : bits .or .u64 ((a * 2 ^ s : Nat) : Int) (b : Int) = ((a * 2 ^ s + b : Nat) : Int) := by
  have e := u64_or_nat (a * 2 ^ s) b (by omega) (by omega)
  rw [e, Nat.mul_comm a, Nat.two_pow_add_eq_or_of_lt h]
set_option maxRecDepth 100000 in
set_option maxHeartbeats 4000000 in
theorem div64_calls (hi lo y : Nat) (w : World) (h1 : hi < y) (h2 : y < 18446744073709551616) (h3 : lo < 18446744073709551616) :
    Calls Try.prog 78 #[.int .u64 hi, .int .u64 lo, .int .u64 y] w fun e w' => e = .returned (.tuple #[.int .u64 ((hi * 18446744073709551616 + lo) / y : Nat), .int .u64 ((hi * 18446744073709551616 + lo) % y : Nat)]) ∧ ∃ m, w' = w.drewN m := by
  have yn : ¬ y = 0 := by omega
  by_cases c0 : hi = 0
  · subst c0
    have a3 : IntKind.u64.wrap ((lo : Int) / (y : Int)) = (lo : Int) / (y : Int) := by
      rw [← Int.natCast_ediv]; exact wrapN _ (Nat.lt_of_le_of_lt (Nat.div_le_self _ _) h3)
    have z : 0 * 18446744073709551616 + lo = lo := by omega
    rw [z, Int.natCast_ediv, Int.natCast_emod]
    clear z
    go_enter Try.func78, Try.ntmps78
    go_wp2_with fail
    go_quiet (fail)
    go_wp2_with fail
    go_ret2
    exact ⟨rfl, _, rfl⟩
  obtain ⟨s, s1, s2, s3, s4⟩ := lead (by omega) h2
  have LZ := Lib.hid (fun W => leading_calls (y : Int) W (by omega) (by omega))
  simp only [Int.toNat_natCast] at LZ
  rw [s2] at LZ
  have y1 : 0 < y := by omega
  have pw : 0 < 2 ^ s := Nat.two_pow_pos s
  have pd : 2 ^ s ∣ 18446744073709551616 := ⟨2 ^ (64 - s), by rw [← Nat.pow_add, show s + (64 - s) = 64 by omega]⟩
  have p64 : 18446744073709551616 / 2 ^ s = 2 ^ (64 - s) := by rw [show 18446744073709551616 = 2 ^ s * 2 ^ (64 - s) by rw [← Nat.pow_add, show s + (64 - s) = 64 by omega], Nat.mul_div_cancel_left _ pw]
  have MV := Dv.moved (hi := hi) (lo := lo) (y := y) pd h3
  rw [p64] at MV
  obtain ⟨BK1, BK2⟩ := Dv.back (N := hi * 18446744073709551616 + lo) (y := y) (s := s)
  rw [← MV] at BK1 BK2
  have l1 : lo / 2 ^ (64 - s) < 2 ^ s := (Nat.div_lt_iff_lt_mul (Nat.two_pow_pos _)).2 (by rw [← Nat.pow_add, show s + (64 - s) = 64 by omega]; exact h3)
  have hl : (hi + 1) * 2 ^ s ≤ y * 2 ^ s := Nat.mul_le_mul_right _ (by omega)
  rw [Nat.add_mul, Nat.one_mul] at hl
  have e6 := or_shift (a := hi) l1 (by omega)
  have e1 : IntKind.u64.wrap ((y : Int) * 2 ^ s) = ((y * 2 ^ s : Nat) : Int) := by
    have := wrapN (y * 2 ^ s) s3
    rw [Int.natCast_mul, Int.natCast_pow] at this
    rw [Int.natCast_mul, Int.natCast_pow]; exact this
  have e4 : IntKind.u64.wrap ((hi : Int) * 2 ^ s) = ((hi * 2 ^ s : Nat) : Int) := by
    have := wrapN (hi * 2 ^ s) (by omega)
    rw [Int.natCast_mul, Int.natCast_pow] at this
    rw [Int.natCast_mul, Int.natCast_pow]; exact this
  have e5 : (lo : Int) / 2 ^ (64 - s) = ((lo / 2 ^ (64 - s) : Nat) : Int) := by rw [Int.natCast_ediv, Int.natCast_pow]; rfl
  have e7 : IntKind.u64.wrap ((lo : Int) * 2 ^ s) = ((lo * 2 ^ s % 18446744073709551616 : Nat) : Int) := by
    rw [IntKind.wrap_u64, Int.natCast_emod, Int.natCast_mul, Int.natCast_pow]; rfl
  have u2 : hi * 2 ^ s + lo / 2 ^ (64 - s) < y * 2 ^ s := by omega
  have v2 : lo * 2 ^ s % 18446744073709551616 < 18446744073709551616 := Nat.mod_lt _ (by decide)
  clear l1 hl MV p64 pd
  generalize hi * 2 ^ s = H at *
  generalize lo / 2 ^ (64 - s) = L at *
  generalize lo * 2 ^ s % 18446744073709551616 = V at *
  obtain ⟨U, hU⟩ : ∃ U, H + L = U := ⟨_, rfl⟩
  rw [hU] at e6 u2 BK1 BK2
  clear hU
  obtain ⟨Y, hY⟩ : ∃ Y, y * 2 ^ s = Y := ⟨_, rfl⟩
  rw [hY] at e1 s3 s4 u2 BK1 BK2
  have HY := Lib.hid hY
  clear hY
  have yd := Nat.div_add_mod Y 4294967296
  have vd := Nat.div_add_mod V 4294967296
  have e2 : (Y : Int) / 4294967296 = ((Y / 4294967296 : Nat) : Int) := (Int.natCast_ediv Y 4294967296).symm
  have e3 := and32 Y s3
  have e8 : (V : Int) / 4294967296 = ((V / 4294967296 : Nat) : Int) := (Int.natCast_ediv V 4294967296).symm
  have e9 := and32 V v2
  have b1 : Y / 4294967296 < 4294967296 := by omega
  have b2 : 2147483648 ≤ Y / 4294967296 := by omega
  have b3 : Y % 4294967296 < 4294967296 := by omega
  have b4 : V / 4294967296 < 4294967296 := by omega
  have b5 : V % 4294967296 < 4294967296 := by omega
  generalize Y / 4294967296 = d1 at *
  generalize Y % 4294967296 = d0 at *
  generalize V / 4294967296 = u1 at *
  generalize V % 4294967296 = u0 at *
  have dn : ¬ d1 = 0 := by omega
  have EY : Hid (Y = d1 * 4294967296 + d0) := Lib.hid (by omega)
  have EV : Hid (V = u1 * 4294967296 + u0) := Lib.hid (by omega)
  clear yd vd
  have t1 := tdivN U d1
  have q1 : U / d1 ≤ U := Nat.div_le_self _ _
  have q2 := Nat.div_add_mod U d1
  have q3 : U % d1 < d1 := Nat.mod_lt _ (by omega)
  have g0 := Lib.hid (Dv.start (U := U) (u1 := u1) (d1 := d1) (d0 := d0) (by omega) b4)
  have t2 : IntKind.u64.wrap ((U / d1 : Nat) : Int) = ((U / d1 : Nat) : Int) := wrapN _ (by omega)
  have t3 : IntKind.u64.wrap (((U / d1 : Nat) : Int) * (d1 : Int)) = ((d1 * (U / d1) : Nat) : Int) := by
    rw [← Int.natCast_mul, Nat.mul_comm]; exact wrapN _ (by omega)
  have t4 : IntKind.u64.wrap ((U : Int) - ((d1 * (U / d1) : Nat) : Int)) = ((U % d1 : Nat) : Int) := by
    rw [show (U : Int) - ((d1 * (U / d1) : Nat) : Int) = ((U % d1 : Nat) : Int) by omega]; exact wrapN _ (by omega)
  generalize d1 * (U / d1) = z0 at *
  generalize U / d1 = Q0 at *
  generalize U % d1 = R0 at *
  clear s2
  go_enter Try.func78, Try.ntmps78
  go_wp2_with fail
  refine (LZ.out _).mono ?_
  rintro e w1 ⟨rfl, rfl⟩
  have Q0b : Q0 < 18446744073709551616 := by omega
  have R0b : R0 < 4294967296 := by omega
  obtain ⟨Q, hQ⟩ : ∃ Q, (U * 4294967296 + u1) / (d1 * 4294967296 + d0) = Q := ⟨_, rfl⟩
  have EY2 := EY.out
  have u3 : U < d1 * 4294967296 + d0 := by omega
  have U0 := Lib.hid u3
  have HQ : Hid ((U * 4294967296 + u1) / (d1 * 4294967296 + d0) = Q) := Lib.hid hQ
  have QT : Q < 4294967296 := by rw [← hQ]; exact Dv.top u3 b4
  have D0 : Hid (0 < d1) := Lib.hid (by omega)
  have QL0 := Dv.left (M := U * 4294967296 + u1) (y := d1 * 4294967296 + d0)
  rw [hQ] at QL0
  have QL := Lib.hid QL0
  clear QL0
  have K1 := Lib.hid BK1
  have K2 := Lib.hid BK2
  have S3 := Lib.hid s3
  have U2 := Lib.hid u2
  have V2 := Lib.hid v2
  clear hQ EY2 u3 BK1 BK2 q3 s4 s3 u2 v2 q2
  go_upto_block 0 with fail
  clear LZ t1 t2 t3 t4 e1 e2 e3 e4 e5 e6 e7 e8 e9 q1 HY
  go_cut [15, 16] from 67 to 85 (fun s15 s16 wx => s15 = .int .u64 Q ∧ (∃ r : Nat, s16 = .int .u64 r) ∧ wx = w1)
  case first =>
    go_wp2_with fail
    go_loopw [15, 16] (fun q r wr => ∃ q' r' : Nat, q = .int .u64 q' ∧ r = .int .u64 r' ∧ wr = w1 ∧ q' < 18446744073709551616 ∧ r' < 4294967296 ∧ Hid (Dv.G U u1 d1 d0 q' r')) (fun q _ _ => (intOf q).toNat)
    case atStart => exact ⟨Q0, R0, rfl, rfl, rfl, by omega, by omega, g0⟩
    case round =>
      obtain ⟨q, r, rfl, rfl, rfl, hq, hr, g⟩ := hrel
      clear g0
      obtain ⟨q2, hq2⟩ : ∃ q2, q - 1 = q2 := ⟨_, rfl⟩
      obtain ⟨r2, hr2⟩ : ∃ r2, r + d1 = r2 := ⟨_, rfl⟩
      have f2 : IntKind.u64.wrap ((r : Int) + (d1 : Int)) = (r2 : Int) := by
        rw [show (r : Int) + (d1 : Int) = (r2 : Int) by omega]; exact wrapN _ (by omega)
      by_cases c1 : 4294967296 ≤ q
      · obtain ⟨q1, g'⟩ := g.out.down D0.out U0.out b4 (.inl c1)
        rw [hq2, hr2] at g'
        have G' := Lib.hid g'
        clear g g'
        have f1 : IntKind.u64.wrap ((q : Int) - 1) = (q2 : Int) := by
          rw [show (q : Int) - 1 = (q2 : Int) by omega]; exact wrapN _ (by omega)
        have ql : q2 < q := by omega
        have qb : q2 < 18446744073709551616 := by omega
        clear hq2 q1
        by_cases c3 : 4294967296 ≤ r2
        · have DN := Lib.hid ((G'.out.done2 D0.out U0.out b3 c3).trans HQ.out)
          clear hr2
          have C1 := Lib.hid c1
          have kd : decide ((4294967296 : Int) ≤ (q : Int)) = true := decide_eq_true (by omega)
          have C3 := Lib.hid c3
          have ke : decide ((4294967296 : Int) ≤ (r2 : Int)) = true := decide_eq_true (by omega)
          clear c1 c3
          go_wp2_with fail
          go_meet
          exact ⟨by rw [DN.out], ⟨_, rfl⟩, by first | rfl | trivial⟩
        · clear hr2
          have C1 := Lib.hid c1
          have kd : decide ((4294967296 : Int) ≤ (q : Int)) = true := decide_eq_true (by omega)
          have C3 := Lib.hid c3
          have ke : decide ((4294967296 : Int) ≤ (r2 : Int)) = false := decide_eq_false (by omega)
          clear c1 c3
          go_wp2_with fail
          exact ⟨⟨q2, r2, rfl, rfl, by first | rfl | trivial, qb, by have := C3.out; omega, G'⟩, by simp [intOf]; omega⟩
      · obtain ⟨m1, hm1⟩ : ∃ m1, q * d0 = m1 := ⟨_, rfl⟩
        have m1b : m1 < 18446744073709551616 := by
          rw [← hm1]; exact Nat.lt_of_le_of_lt (Nat.mul_le_mul (show q ≤ 4294967295 by omega) (show d0 ≤ 4294967295 by omega)) (by decide)
        have f3 : IntKind.u64.wrap ((q : Int) * (d0 : Int)) = (m1 : Int) := by
          rw [← Int.natCast_mul, hm1]; exact wrapN _ m1b
        obtain ⟨m2, hm2⟩ : ∃ m2, 4294967296 * r = m2 := ⟨_, rfl⟩
        have f4 : IntKind.u64.wrap (4294967296 * (r : Int)) = (m2 : Int) := by
          rw [show 4294967296 * (r : Int) = (m2 : Int) by omega]; exact wrapN _ (by omega)
        obtain ⟨m3, hm3⟩ : ∃ m3, m2 + u1 = m3 := ⟨_, rfl⟩
        have f5 : IntKind.u64.wrap ((m2 : Int) + (u1 : Int)) = (m3 : Int) := by
          rw [show (m2 : Int) + (u1 : Int) = (m3 : Int) by omega]; exact wrapN _ (by omega)
        by_cases c4 : m3 < m1
        · obtain ⟨q1, g'⟩ := g.out.down D0.out U0.out b4 (.inr (by rw [hm1]; omega))
          rw [hq2, hr2] at g'
          have G' := Lib.hid g'
          clear g g'
          have f1 : IntKind.u64.wrap ((q : Int) - 1) = (q2 : Int) := by
            rw [show (q : Int) - 1 = (q2 : Int) by omega]; exact wrapN _ (by omega)
          have ql : q2 < q := by omega
          have qb : q2 < 18446744073709551616 := by omega
          clear hq2 q1 hm1 hm2 hm3 m1b
          by_cases c3 : 4294967296 ≤ r2
          · have DN := Lib.hid ((G'.out.done2 D0.out U0.out b3 c3).trans HQ.out)
            clear hr2
            have C1 := Lib.hid c1
            have kd : decide ((4294967296 : Int) ≤ (q : Int)) = false := decide_eq_false (by omega)
            have C3 := Lib.hid c3
            have ke : decide ((4294967296 : Int) ≤ (r2 : Int)) = true := decide_eq_true (by omega)
            clear c1 c3
            go_wp2_with fail
            go_meet
            exact ⟨by rw [DN.out], ⟨_, rfl⟩, by first | rfl | trivial⟩
          · clear hr2
            have C1 := Lib.hid c1
            have kd : decide ((4294967296 : Int) ≤ (q : Int)) = false := decide_eq_false (by omega)
            have C3 := Lib.hid c3
            have ke : decide ((4294967296 : Int) ≤ (r2 : Int)) = false := decide_eq_false (by omega)
            clear c1 c3
            go_wp2_with fail
            exact ⟨⟨q2, r2, rfl, rfl, by first | rfl | trivial, qb, by have := C3.out; omega, G'⟩, by simp [intOf]; omega⟩
        · have DN := Lib.hid ((g.out.done1 D0.out (by rw [hm1]; omega)).trans HQ.out)
          clear hq2 hm1 hm2 hm3 m1b hr2 g
          have C1 := Lib.hid c1
          have kd : decide ((4294967296 : Int) ≤ (q : Int)) = false := decide_eq_false (by omega)
          clear c1
          go_wp2_with fail
          go_meet
          exact ⟨by rw [DN.out], ⟨_, rfl⟩, by first | rfl | trivial⟩
  case rest =>
    obtain ⟨rfl, ⟨r9, rfl⟩, rfl⟩ := hcut
    clear g0 Q0b R0b
    have s3 := S3.out
    have u2 := U2.out
    have qM : Q * Y ≤ U * 4294967296 + u1 := by rw [EY.out, ← HQ.out]; exact Nat.div_mul_le_self _ _
    have BT := Dv.both (M := U * 4294967296 + u1) (u0 := u0) (y := Y) (by omega)
    obtain ⟨UU, hUU⟩ : ∃ UU, (U * 4294967296 + u1) % Y = UU := ⟨_, rfl⟩
    have uM : U * 4294967296 + u1 - Q * Y = UU := by have := QL.out; rw [← EY.out] at this; rw [this, hUU]
    have uu2 : UU < Y := by rw [← hUU]; exact Nat.mod_lt _ (by omega)
    rw [hUU, show (U * 4294967296 + u1) / Y = Q by rw [EY.out]; exact HQ.out, show (U * 4294967296 + u1) * 4294967296 + u0 = U * 18446744073709551616 + V by rw [EV.out]; grind, K1.out] at BT
    have UU0 : Hid (UU < d1 * 4294967296 + d0) := Lib.hid (by rw [← EY.out]; exact uu2)
    have a1 : IntKind.u64.wrap ((U : Int) * 4294967296) = ((U * 4294967296 % 18446744073709551616 : Nat) : Int) := by
      rw [IntKind.wrap_u64, Int.natCast_emod, Int.natCast_mul]; rfl
    have a2 : IntKind.u64.wrap (((U * 4294967296 % 18446744073709551616 : Nat) : Int) + (u1 : Int)) = (((U * 4294967296 + u1) % 18446744073709551616 : Nat) : Int) := by
      rw [IntKind.wrap_u64]; omega
    have a3 : IntKind.u64.wrap ((Q : Int) * (Y : Int)) = ((Q * Y % 18446744073709551616 : Nat) : Int) := by
      rw [IntKind.wrap_u64, Int.natCast_emod, Int.natCast_mul]; rfl
    have a4 : IntKind.u64.wrap ((((U * 4294967296 + u1) % 18446744073709551616 : Nat) : Int) - ((Q * Y % 18446744073709551616 : Nat) : Int)) = (UU : Int) := by
      rw [IntKind.wrap_u64]
      generalize Q * Y = QY at *
      omega
    obtain ⟨A1, hA1⟩ : ∃ A1, U * 4294967296 % 18446744073709551616 = A1 := ⟨_, rfl⟩
    obtain ⟨A2, hA2⟩ : ∃ A2, (U * 4294967296 + u1) % 18446744073709551616 = A2 := ⟨_, rfl⟩
    obtain ⟨A3, hA3⟩ : ∃ A3, Q * Y % 18446744073709551616 = A3 := ⟨_, rfl⟩
    rw [hA1] at a1 a2
    rw [hA2] at a2 a4
    rw [hA3] at a3 a4
    clear hA1 hA2 hA3
    have t1 := tdivN UU d1
    have q1 : UU / d1 ≤ UU := Nat.div_le_self _ _
    have q2 := Nat.div_add_mod UU d1
    have q3 : UU % d1 < d1 := Nat.mod_lt _ D0.out
    have gg0 := Lib.hid (Dv.start (U := UU) (u1 := u0) (d1 := d1) (d0 := d0) D0.out b5)
    have t2 : IntKind.u64.wrap ((UU / d1 : Nat) : Int) = ((UU / d1 : Nat) : Int) := wrapN _ (by omega)
    have t3 : IntKind.u64.wrap (((UU / d1 : Nat) : Int) * (d1 : Int)) = ((d1 * (UU / d1) : Nat) : Int) := by
      rw [← Int.natCast_mul, Nat.mul_comm]; exact wrapN _ (by omega)
    have t4 : IntKind.u64.wrap ((UU : Int) - ((d1 * (UU / d1) : Nat) : Int)) = ((UU % d1 : Nat) : Int) := by
      rw [show (UU : Int) - ((d1 * (UU / d1) : Nat) : Int) = ((UU % d1 : Nat) : Int) by omega]; exact wrapN _ (by omega)
    generalize d1 * (UU / d1) = zz0 at *
    generalize UU / d1 = QQ0 at *
    generalize UU % d1 = RR0 at *
    have Q0b : QQ0 < 18446744073709551616 := by omega
    have R0b : RR0 < 4294967296 := by omega
    obtain ⟨QQ, hQQ⟩ : ∃ QQ, (UU * 4294967296 + u0) / (d1 * 4294967296 + d0) = QQ := ⟨_, rfl⟩
    have HQQ : Hid ((UU * 4294967296 + u0) / (d1 * 4294967296 + d0) = QQ) := Lib.hid hQQ
    have QQT : QQ < 4294967296 := by rw [← hQQ]; exact Dv.top UU0.out b5
    have HUU := Lib.hid uu2
    have BTH := Lib.hid BT
    clear hQQ hUU uM qM q2 q3 s3 u2 uu2 BT
    go_upto_block 2 with fail
    clear a1 a2 a3 a4 t1 t2 t3 t4 q1
    go_cut [18, 16] from 102 to 120 (fun s18 s16 wx => s18 = .int .u64 QQ ∧ (∃ r : Nat, s16 = .int .u64 r) ∧ wx = wc)
    case first =>
      go_wp2_with fail
      go_loopw [18, 16] (fun q r wr => ∃ q' r' : Nat, q = .int .u64 q' ∧ r = .int .u64 r' ∧ wr = wc ∧ q' < 18446744073709551616 ∧ r' < 4294967296 ∧ Hid (Dv.G UU u0 d1 d0 q' r')) (fun q _ _ => (intOf q).toNat)
      case atStart => exact ⟨QQ0, RR0, rfl, rfl, rfl, by omega, by omega, gg0⟩
      case round =>
        obtain ⟨q, r, rfl, rfl, rfl, hq, hr, g⟩ := hrel
        clear gg0
        obtain ⟨q2, hq2⟩ : ∃ q2, q - 1 = q2 := ⟨_, rfl⟩
        obtain ⟨r2, hr2⟩ : ∃ r2, r + d1 = r2 := ⟨_, rfl⟩
        have f2 : IntKind.u64.wrap ((r : Int) + (d1 : Int)) = (r2 : Int) := by
          rw [show (r : Int) + (d1 : Int) = (r2 : Int) by omega]; exact wrapN _ (by omega)
        by_cases c1 : 4294967296 ≤ q
        · obtain ⟨q1, g'⟩ := g.out.down D0.out UU0.out b5 (.inl c1)
          rw [hq2, hr2] at g'
          have G' := Lib.hid g'
          clear g g'
          have f1 : IntKind.u64.wrap ((q : Int) - 1) = (q2 : Int) := by
            rw [show (q : Int) - 1 = (q2 : Int) by omega]; exact wrapN _ (by omega)
          have ql : q2 < q := by omega
          have qb : q2 < 18446744073709551616 := by omega
          clear hq2 q1
          by_cases c3 : 4294967296 ≤ r2
          · have DN := Lib.hid ((G'.out.done2 D0.out UU0.out b3 c3).trans HQQ.out)
            clear hr2
            have C1 := Lib.hid c1
            have kd : decide ((4294967296 : Int) ≤ (q : Int)) = true := decide_eq_true (by omega)
            have C3 := Lib.hid c3
            have ke : decide ((4294967296 : Int) ≤ (r2 : Int)) = true := decide_eq_true (by omega)
            clear c1 c3
            go_wp2_with fail
            go_meet
            exact ⟨by rw [DN.out], ⟨_, rfl⟩, by first | rfl | trivial⟩
          · clear hr2
            have C1 := Lib.hid c1
            have kd : decide ((4294967296 : Int) ≤ (q : Int)) = true := decide_eq_true (by omega)
            have C3 := Lib.hid c3
            have ke : decide ((4294967296 : Int) ≤ (r2 : Int)) = false := decide_eq_false (by omega)
            clear c1 c3
            go_wp2_with fail
            exact ⟨⟨q2, r2, rfl, rfl, by first | rfl | trivial, qb, by have := C3.out; omega, G'⟩, by simp [intOf]; omega⟩
        · obtain ⟨m1, hm1⟩ : ∃ m1, q * d0 = m1 := ⟨_, rfl⟩
          have m1b : m1 < 18446744073709551616 := by
            rw [← hm1]; exact Nat.lt_of_le_of_lt (Nat.mul_le_mul (show q ≤ 4294967295 by omega) (show d0 ≤ 4294967295 by omega)) (by decide)
          have f3 : IntKind.u64.wrap ((q : Int) * (d0 : Int)) = (m1 : Int) := by
            rw [← Int.natCast_mul, hm1]; exact wrapN _ m1b
          obtain ⟨m2, hm2⟩ : ∃ m2, 4294967296 * r = m2 := ⟨_, rfl⟩
          have f4 : IntKind.u64.wrap (4294967296 * (r : Int)) = (m2 : Int) := by
            rw [show 4294967296 * (r : Int) = (m2 : Int) by omega]; exact wrapN _ (by omega)
          obtain ⟨m3, hm3⟩ : ∃ m3, m2 + u0 = m3 := ⟨_, rfl⟩
          have f5 : IntKind.u64.wrap ((m2 : Int) + (u0 : Int)) = (m3 : Int) := by
            rw [show (m2 : Int) + (u0 : Int) = (m3 : Int) by omega]; exact wrapN _ (by omega)
          by_cases c4 : m3 < m1
          · obtain ⟨q1, g'⟩ := g.out.down D0.out UU0.out b5 (.inr (by rw [hm1]; omega))
            rw [hq2, hr2] at g'
            have G' := Lib.hid g'
            clear g g'
            have f1 : IntKind.u64.wrap ((q : Int) - 1) = (q2 : Int) := by
              rw [show (q : Int) - 1 = (q2 : Int) by omega]; exact wrapN _ (by omega)
            have ql : q2 < q := by omega
            have qb : q2 < 18446744073709551616 := by omega
            clear hq2 q1 hm1 hm2 hm3 m1b
            by_cases c3 : 4294967296 ≤ r2
            · have DN := Lib.hid ((G'.out.done2 D0.out UU0.out b3 c3).trans HQQ.out)
              clear hr2
              have C1 := Lib.hid c1
              have kd : decide ((4294967296 : Int) ≤ (q : Int)) = false := decide_eq_false (by omega)
              have C3 := Lib.hid c3
              have ke : decide ((4294967296 : Int) ≤ (r2 : Int)) = true := decide_eq_true (by omega)
              clear c1 c3
              go_wp2_with fail
              go_meet
              exact ⟨by rw [DN.out], ⟨_, rfl⟩, by first | rfl | trivial⟩
            · clear hr2
              have C1 := Lib.hid c1
              have kd : decide ((4294967296 : Int) ≤ (q : Int)) = false := decide_eq_false (by omega)
              have C3 := Lib.hid c3
              have ke : decide ((4294967296 : Int) ≤ (r2 : Int)) = false := decide_eq_false (by omega)
              clear c1 c3
              go_wp2_with fail
              exact ⟨⟨q2, r2, rfl, rfl, by first | rfl | trivial, qb, by have := C3.out; omega, G'⟩, by simp [intOf]; omega⟩
          · have DN := Lib.hid ((g.out.done1 D0.out (by rw [hm1]; omega)).trans HQQ.out)
            clear hq2 hm1 hm2 hm3 m1b hr2 g
            have C1 := Lib.hid c1
            have kd : decide ((4294967296 : Int) ≤ (q : Int)) = false := decide_eq_false (by omega)
            clear c1
            go_wp2_with fail
            go_meet
            exact ⟨by rw [DN.out], ⟨_, rfl⟩, by first | rfl | trivial⟩
    case rest =>
      obtain ⟨rfl, ⟨r8, rfl⟩, rfl⟩ := hcut
      clear gg0 Q0b R0b
      have s3 := S3.out
      have uu2 := HUU.out
      obtain ⟨bt1, bt2⟩ := BTH.out
      have k2 := K2.out
      rw [← bt2] at k2
      have qM : QQ * Y ≤ UU * 4294967296 + u0 := by rw [EY.out, ← HQQ.out]; exact Nat.div_mul_le_self _ _
      have QL2 := Dv.left (M := UU * 4294967296 + u0) (y := Y)
      have e1 : (UU * 4294967296 + u0) / Y = QQ := by rw [EY.out]; exact HQQ.out
      rw [e1] at QL2 bt1
      rw [← QL2] at k2
      have rl : (UU * 4294967296 + u0) % Y < Y := Nat.mod_lt _ (by omega)
      rw [← QL2] at rl
      have a0 : IntKind.u64.wrap ((Q : Int) * 4294967296) = ((Q * 4294967296 : Nat) : Int) := by
        rw [IntKind.wrap_u64]; omega
      have a9 : IntKind.u64.wrap (((Q * 4294967296 : Nat) : Int) + (QQ : Int)) = ((Q * 4294967296 + QQ : Nat) : Int) := by
        rw [IntKind.wrap_u64]; omega
      have a1 : IntKind.u64.wrap ((UU : Int) * 4294967296) = ((UU * 4294967296 % 18446744073709551616 : Nat) : Int) := by
        rw [IntKind.wrap_u64, Int.natCast_emod, Int.natCast_mul]; rfl
      have a2 : IntKind.u64.wrap (((UU * 4294967296 % 18446744073709551616 : Nat) : Int) + (u0 : Int)) = (((UU * 4294967296 + u0) % 18446744073709551616 : Nat) : Int) := by
        rw [IntKind.wrap_u64]; omega
      have a3 : IntKind.u64.wrap ((QQ : Int) * (Y : Int)) = ((QQ * Y % 18446744073709551616 : Nat) : Int) := by
        rw [IntKind.wrap_u64, Int.natCast_emod, Int.natCast_mul]; rfl
      have a4 : IntKind.u64.wrap ((((UU * 4294967296 + u0) % 18446744073709551616 : Nat) : Int) - ((QQ * Y % 18446744073709551616 : Nat) : Int)) = ((UU * 4294967296 + u0 - QQ * Y : Nat) : Int) := by
        rw [IntKind.wrap_u64]
        clear bt1 QL2 e1
        generalize QQ * Y = QY at *
        omega
      obtain ⟨A0, hA0⟩ : ∃ A0, Q * 4294967296 = A0 := ⟨_, rfl⟩
      obtain ⟨A5, hA5⟩ : ∃ A5, Q * 4294967296 + QQ = A5 := ⟨_, rfl⟩
      obtain ⟨A1, hA1⟩ : ∃ A1, UU * 4294967296 % 18446744073709551616 = A1 := ⟨_, rfl⟩
      obtain ⟨A2, hA2⟩ : ∃ A2, (UU * 4294967296 + u0) % 18446744073709551616 = A2 := ⟨_, rfl⟩
      obtain ⟨A3, hA3⟩ : ∃ A3, QQ * Y % 18446744073709551616 = A3 := ⟨_, rfl⟩
      obtain ⟨A4, hA4⟩ : ∃ A4, UU * 4294967296 + u0 - QQ * Y = A4 := ⟨_, rfl⟩
      rw [hA5] at a9 bt1
      rw [hA0] at a0 a9
      rw [hA1] at a1 a2
      rw [hA2] at a2 a4
      rw [hA3] at a3 a4
      rw [hA4] at a4 k2
      have sm : min s 64 = s := by omega
      clear hA0 hA1 hA2 hA3 hA4 hA5 qM QL2 e1 rl s3 uu2 bt2
      have R1 := Lib.hid bt1
      have R2 := Lib.hid k2
      clear bt1 k2
      go_wp2_with fail
      go_ret2
      exact ⟨by rw [← R1.out, ← R2.out, Int.natCast_ediv, Int.natCast_pow]; rfl, 0, rfl⟩
end Go.Proofs.Ytfangplfbbgphaa
