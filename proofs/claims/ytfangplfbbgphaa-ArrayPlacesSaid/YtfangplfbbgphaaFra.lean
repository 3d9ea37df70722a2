/- Contracts of layer 1: absolute values and greatest common divisors. -/
import Derived.Test.YtfangplfbbgphaaBlk
import Derived.WalkKit
import Derived.ProofKit
import Derived.OpenShut
import Derived.WalkLawsBesides
import Derived.WalkSpells
import Derived.Outline
import Derived.Lib.Hide
import Derived.Deep.QuietTactic
import Derived.BigQuiet
import Derived.WalkSmall
import Derived.RegionTactic
import Derived.Deep.RegionHeld3
import Derived.Deep.DrawnRows
namespace Go.Proofs.Ytfangplfbbgphaa
open Go.ChangeShapes Go.WideShapes Go.ChangeAt Go.RowKit
set_option linter.unusedVariables false
set_option maxRecDepth 100000

theorem Bgo {w W w1 : World} (h : Below w.heap.size w W) (hb : Below W.heap.size W w1) : Below w.heap.size w w1 := h.trans (hb.mono h.size)
theorem Bal {w W : World} (h : Below w.heap.size w W) (o : Obj) : Below w.heap.size w (W.alloc o) := h.alloc h.size o
theorem ret_int {k : IntKind} {a b : Int} (h : a = b) : Ending.returned (.int k a) = .returned (.int k b) := by rw [h]
theorem ret_bool {a b : Bool} (h : a = b) : Ending.returned (.bool a) = .returned (.bool b) := by rw [h]

theorem size_calls (n : Int) (w : World) (h1 : -9223372036854775808 ≤ n) (h2 : n ≤ 9223372036854775807) :
    Calls Try.prog 71 #[.int .i64 n] w fun e w' => e = .returned (.int .u64 (n.natAbs : Int)) ∧ w = w' := by
  by_cases h : n < 0
  · go_enter Try.func71, Try.ntmps71
    go_wp2
    go_ret
    refine ⟨ret_int ?_, rfl⟩
    rw [IntKind.wrap_u64, IntKind.wrap_u64]; omega
  · go_enter Try.func71, Try.ntmps71
    go_wp2
    go_ret
    refine ⟨ret_int ?_, rfl⟩
    omega
theorem gcd_calls (x y : Nat) (w : World) (hx : x < 18446744073709551616) (hy : y < 18446744073709551616) :
    Calls Try.prog 72 #[.int .u64 x, .int .u64 y] w fun e w' => e = .returned (.int .u64 (Nat.gcd x y)) ∧ ∃ n, w' = w.drewN n := by
  generalize hg : Nat.gcd x y = g
  have HG := Lib.hid hg
  clear hg
  go_enter Try.func72, Try.ntmps72
  go_wp2_with fail
  go_loopw [0, 1] (fun a b wr => ∃ u v n : Nat, u < 18446744073709551616 ∧ v < 18446744073709551616 ∧ a = .int .u64 u ∧ b = .int .u64 v ∧ Hid (Nat.gcd u v = g) ∧ wr = w.drewN n) (fun _ b _ => (intOf b).toNat)
  case atStart => exact ⟨x, y, 0, hx, hy, rfl, rfl, HG, rfl⟩
  case round =>
    obtain ⟨u, v, n, hu, hv, rfl, rfl, HE, rfl⟩ := hrel
    by_cases hv0 : v = 0
    · subst hv0
      go_wp2_with fail
      go_ret
      refine ⟨ret_int ?_, n, rfl⟩
      rw [← HE.out]; simp
    · have q1 : ((v : Int) != 0) = true := by rw [bne_iff_ne]; omega
      have q2 : (0 : Int) < (v : Int) := by omega
      have q3 : ¬ ((v : Int) = 0) := by omega
      have hlt : u % v < v := Nat.mod_lt _ (by omega)
      have HR : Hid (Nat.gcd v (u % v) = g) := Lib.hid (by rw [← HE.out, Nat.gcd_comm u v, Nat.gcd_rec v u, Nat.gcd_comm])
      go_wp2_with fail
      go_quiet (fail)
      go_wp2_with fail
      refine ⟨⟨v, u % v, n + nq, hv, by omega, rfl, by rw [Int.natCast_emod], HR, by rw [World.drewN_drewN]⟩, ?_⟩
      show ((u : Int) % (v : Int)).toNat < ((v : Int)).toNat
      rw [← Int.natCast_emod, Int.toNat_natCast, Int.toNat_natCast]
      exact hlt
theorem refGcd_calls (x y : Nat) (w : World) (hx : x < 18446744073709551616) (hy : y < 18446744073709551616) :
    Calls Try.prog 66 #[.int .u64 x, .int .u64 y] w fun e w' => e = .returned (.int .u64 (Nat.gcd x y)) ∧ ∃ n, w' = w.drewN n := by
  generalize hg : Nat.gcd x y = g
  have HG := Lib.hid hg
  clear hg
  go_enter Try.func66, Try.ntmps66
  go_wp2_with fail
  go_loopw [0, 1] (fun a b wr => ∃ u v n : Nat, u < 18446744073709551616 ∧ v < 18446744073709551616 ∧ a = .int .u64 u ∧ b = .int .u64 v ∧ Hid (Nat.gcd u v = g) ∧ wr = w.drewN n) (fun _ b _ => (intOf b).toNat)
  case atStart => exact ⟨x, y, 0, hx, hy, rfl, rfl, HG, rfl⟩
  case round =>
    obtain ⟨u, v, n, hu, hv, rfl, rfl, HE, rfl⟩ := hrel
    by_cases hv0 : v = 0
    · subst hv0
      go_wp2_with fail
      go_ret
      refine ⟨ret_int ?_, n, rfl⟩
      rw [← HE.out]; simp
    · have q1 : ((v : Int) != 0) = true := by rw [bne_iff_ne]; omega
      have q2 : (0 : Int) < (v : Int) := by omega
      have q3 : ¬ ((v : Int) = 0) := by omega
      have hlt : u % v < v := Nat.mod_lt _ (by omega)
      have HR : Hid (Nat.gcd v (u % v) = g) := Lib.hid (by rw [← HE.out, Nat.gcd_comm u v, Nat.gcd_rec v u, Nat.gcd_comm])
      go_wp2_with fail
      go_quiet (fail)
      go_wp2_with fail
      refine ⟨⟨v, u % v, n + nq, hv, by omega, rfl, by rw [Int.natCast_emod], HR, by rw [World.drewN_drewN]⟩, ?_⟩
      show ((u : Int) % (v : Int)).toNat < ((v : Int)).toNat
      rw [← Int.natCast_emod, Int.toNat_natCast, Int.toNat_natCast]
      exact hlt
theorem abs_calls (n : Int) (w : World) (h1 : -9223372036854775808 ≤ n) (h2 : n ≤ 9223372036854775807) :
    Calls Try.prog 67 #[.int .i64 n] w fun e w' => e = .returned (.int .u64 (n.natAbs : Int)) ∧ w = w' := by
  by_cases h : 0 ≤ n
  · go_enter Try.func67, Try.ntmps67
    go_wp2
    go_ret
    refine ⟨ret_int ?_, rfl⟩
    omega
  · go_enter Try.func67, Try.ntmps67
    go_wp2
    go_ret
    refine ⟨ret_int ?_, rfl⟩
    first | omega | (simp only [IntKind.wrap_u64]; omega)
end Go.Proofs.Ytfangplfbbgphaa
