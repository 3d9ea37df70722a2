/- Contracts of layer 1: products of 64 bits. -/
import Derived.Test.YtfangplfbbgphaaFrf
namespace Go.Proofs.Ytfangplfbbgphaa
open Go.ChangeShapes Go.WideShapes Go.ChangeAt Go.RowKit
set_option linter.unusedVariables false
set_option maxRecDepth 100000
attribute [local go_sem ↓] Go.wp_at_zero Go.wp_at_succ

theorem prod_lt {a b m : Nat} (ha : a ≤ m) (hb : b ≤ m) : a * b ≤ m * m := Nat.mul_le_mul ha hb
theorem mul64_plain {x y x0 x1 y0 y1 a b c d : Nat} (hx : x = 4294967296 * x1 + x0) (hy : y = 4294967296 * y1 + y0) (ha : x0 * y0 = a) (hb : x1 * y0 = b) (hc : x0 * y1 = c) (hd : x1 * y1 = d) : x * y = 18446744073709551616 * d + 4294967296 * (b + c) + a := by
  subst hx hy ha hb hc hd
  grind
set_option maxHeartbeats 1000000 in
theorem mul64_calls (x y : Nat) (w : World) (hx : x < 18446744073709551616) (hy : y < 18446744073709551616) :
    Calls Try.prog 73 #[.int .u64 x, .int .u64 y] w fun e w' => e = .returned (.tuple #[.int .u64 (x * y / 18446744073709551616 : Nat), .int .u64 (x * y % 18446744073709551616 : Nat)]) ∧ w = w' := by
  have b0 : x % 4294967296 ≤ 4294967295 := by omega
  have b1 : x / 4294967296 ≤ 4294967295 := by omega
  have b2 : y % 4294967296 ≤ 4294967295 := by omega
  have b3 : y / 4294967296 ≤ 4294967295 := by omega
  have EX : x = 4294967296 * (x / 4294967296) + x % 4294967296 := by omega
  have EY : y = 4294967296 * (y / 4294967296) + y % 4294967296 := by omega
  have r1 := and32 x hx
  have r2 : (x : Int) / 4294967296 = ((x / 4294967296 : Nat) : Int) := (Int.natCast_ediv x 4294967296).symm
  have r3 := and32 y hy
  have r4 : (y : Int) / 4294967296 = ((y / 4294967296 : Nat) : Int) := (Int.natCast_ediv y 4294967296).symm
  generalize x % 4294967296 = x0 at *
  generalize x / 4294967296 = x1 at *
  generalize y % 4294967296 = y0 at *
  generalize y / 4294967296 = y1 at *
  have p1 := prod_lt b0 b2
  have p2 := prod_lt b1 b2
  have p3 := prod_lt b0 b3
  have p4 := prod_lt b1 b3
  have PL := mul64_plain EX EY rfl rfl rfl rfl
  have m1 : (x0 : Int) * (y0 : Int) = ((x0 * y0 : Nat) : Int) := (Int.natCast_mul x0 y0).symm
  have m2 : (x1 : Int) * (y0 : Int) = ((x1 * y0 : Nat) : Int) := (Int.natCast_mul x1 y0).symm
  have m3 : (x0 : Int) * (y1 : Int) = ((x0 * y1 : Nat) : Int) := (Int.natCast_mul x0 y1).symm
  have m4 : (x1 : Int) * (y1 : Int) = ((x1 * y1 : Nat) : Int) := (Int.natCast_mul x1 y1).symm
  have m5 : IntKind.u64.wrap ((x : Int) * (y : Int)) = ((x * y % 18446744073709551616 : Nat) : Int) := by
    rw [IntKind.wrap_u64, ← Int.natCast_mul]; omega
  clear EX EY
  generalize x0 * y0 = a at *
  generalize x1 * y0 = b at *
  generalize x0 * y1 = c at *
  generalize x1 * y1 = d at *
  obtain ⟨hi, ehi⟩ : ∃ hi, x * y / 18446744073709551616 = hi := ⟨_, rfl⟩
  have EH : Hid (hi = d + (b + a / 4294967296) / 4294967296 + ((b + a / 4294967296) % 4294967296 + c) / 4294967296) := Lib.hid (by
    generalize x * y = xy at *; omega)
  have bh : hi ≤ 18446744073709551615 := by
    generalize hxy : x * y = xy at *
    have : xy ≤ 18446744073709551615 * 18446744073709551615 := by rw [← hxy]; exact prod_lt (by omega) (by omega)
    omega
  rw [ehi]
  clear ehi PL
  generalize x * y % 18446744073709551616 = lo at *
  have n1 : (a : Int) / 4294967296 = ((a / 4294967296 : Nat) : Int) := (Int.natCast_ediv a 4294967296).symm
  have l1 : a / 4294967296 ≤ 4294967295 := by omega
  generalize a / 4294967296 = q at *
  have n2 : (b : Int) + (q : Int) = ((b + q : Nat) : Int) := by omega
  have l2 : b + q < 18446744073709551616 := by omega
  have n3 := and32 (b + q) l2
  have n4 : ((b + q : Nat) : Int) / 4294967296 = (((b + q) / 4294967296 : Nat) : Int) := (Int.natCast_ediv (b + q) 4294967296).symm
  have l3 : (b + q) % 4294967296 ≤ 4294967295 := by omega
  have l4 : (b + q) / 4294967296 ≤ 4294967295 := by omega
  generalize (b + q) % 4294967296 = s at *
  generalize (b + q) / 4294967296 = t at *
  generalize b + q = u at *
  have n5 : (s : Int) + (c : Int) = ((s + c : Nat) : Int) := by omega
  have n6 : ((s + c : Nat) : Int) / 4294967296 = (((s + c) / 4294967296 : Nat) : Int) := (Int.natCast_ediv (s + c) 4294967296).symm
  have l5 : s + c < 18446744073709551616 := by omega
  have l6 : (s + c) / 4294967296 ≤ 4294967295 := by omega
  generalize (s + c) / 4294967296 = v at *
  generalize s + c = z at *
  have n7 : (d : Int) + (t : Int) = ((d + t : Nat) : Int) := by omega
  have l7 : d + t < 18446744073709551616 := by omega
  generalize hdt : d + t = dt at *
  have n8 : (dt : Int) + (v : Int) = (hi : Int) := by have := EH.out; omega
  clear EH
  go_enter Try.func73, Try.ntmps73
  go_wp2_with fail
  go_ret2
  exact ⟨rfl, rfl⟩
end Go.Proofs.Ytfangplfbbgphaa
