/- Contracts of layer 1: valid fractions. -/
import Derived.Test.YtfangplfbbgphaaFra
namespace Go.Proofs.Ytfangplfbbgphaa
open Go.ChangeShapes Go.WideShapes Go.ChangeAt Go.RowKit
set_option linter.unusedVariables false
set_option maxRecDepth 100000
attribute [local go_sem ↓] Go.wp_at_zero Go.wp_at_succ

theorem quiet_left {P : Program} {f : FuncId} {args : Array Value} {w : World} {n : Nat} {v : Value}
    (h : Calls P f args (w.drewN n) fun e w' => e = .returned v ∧ w.drewN n = w') : Calls P f args (w.drewN n) fun e w'' => e = .returned v ∧ ∃ m, w'' = w.drewN m :=
  h.mono fun _ _ ⟨he, hm⟩ => ⟨he, n, hm.symm⟩
theorem quiet_more {P : Program} {f : FuncId} {args : Array Value} {w : World} {n : Nat} {v : Value}
    (h : Calls P f args (w.drewN n) fun e w' => e = .returned v ∧ ∃ m, w' = (w.drewN n).drewN m) : Calls P f args (w.drewN n) fun e w'' => e = .returned v ∧ ∃ m, w'' = w.drewN m :=
  h.mono fun _ _ ⟨he, m, hm⟩ => ⟨he, n + m, by rw [hm, World.drewN_drewN]⟩
theorem below_drewN {B : Nat} {a w : World} (h : Below B a w) (n : Nat) : Below B a (w.drewN n) := ⟨h.os, h.tape, h.output, h.size, h.block⟩
abbrev Fv (n d : Int) : Value := .agg #[.int .i64 n, .int .i64 d]
def okF (n d : Int) : Bool := decide (1 ≤ d ∧ d ≤ 1000000000000000000 ∧ -1000000000000000000 ≤ n ∧ n ≤ 1000000000000000000) && (Nat.gcd n.natAbs d.natAbs == 1)
def errF (n d : Int) : Int := if okF n d then 0 else 8
theorem errF_out {n d : Int} (h : ¬ (1 ≤ d ∧ d ≤ 1000000000000000000 ∧ -1000000000000000000 ≤ n ∧ n ≤ 1000000000000000000)) : errF n d = 8 := by
  unfold errF okF; rw [decide_eq_false h]; rfl
theorem errF_in {n d : Int} (h : 1 ≤ d ∧ d ≤ 1000000000000000000 ∧ -1000000000000000000 ≤ n ∧ n ≤ 1000000000000000000) : errF n d = if (Nat.gcd n.natAbs d.natAbs == 1) then 0 else 8 := by
  unfold errF okF; rw [decide_eq_true h]; rfl

set_option maxHeartbeats 2000000 in
theorem check_calls (n d : Int) (w : World) :
    Calls Try.prog 60 #[Fv n d] w fun e w' => e = .returned (.int .i64 (errF n d)) ∧ Below w.heap.size w w' := by
  by_cases hin : 1 ≤ d ∧ d ≤ 1000000000000000000 ∧ -1000000000000000000 ≤ n ∧ n ≤ 1000000000000000000
  · have F := Lib.hid (errF_in hin)
    generalize errF n d = v at *
    obtain ⟨h1, h2, h3, h4⟩ := hin
    obtain ⟨g, hg⟩ : ∃ g : Nat, Nat.gcd n.natAbs d.natAbs = g := ⟨_, rfl⟩
    have GC : Hid (∀ W : World, Calls Try.prog 72 #[.int .u64 (n.natAbs : Int), .int .u64 (d.natAbs : Int)] W fun e w' => e = .returned (.int .u64 (g : Int)) ∧ ∃ m, w' = W.drewN m) := Lib.hid (fun W => by
      have := gcd_calls n.natAbs d.natAbs W (by omega) (by omega)
      rw [hg] at this; exact this)
    rw [hg] at F
    clear hg
    by_cases hg1 : g = 1
    · have F2 : Hid (v = 0) := Lib.hid (by rw [F.out, hg1]; rfl)
      have q : ((g : Int) != 1) = false := by rw [hg1]; rfl
      clear hg1 F
      go_enter Try.func60, Try.ntmps60
      go_wp2_with fail
      go_quiet ((first | (go_at_call 71; exact quiet_left (size_calls _ _ (by omega) (by omega))) | (go_at_call 72; exact quiet_more (GC.out _))))
      go_wp2_with fail
      go_ret
      exact ⟨ret_int F2.out.symm, below_drewN (Bal (Below.refl _ _) _) _⟩
    · have F2 : Hid (v = 8) := Lib.hid (by rw [F.out, if_neg (by simpa using hg1)])
      have q : ((g : Int) != 1) = true := by rw [bne_iff_ne]; omega
      clear hg1 F
      go_enter Try.func60, Try.ntmps60
      go_wp2_with fail
      go_quiet ((first | (go_at_call 71; exact quiet_left (size_calls _ _ (by omega) (by omega))) | (go_at_call 72; exact quiet_more (GC.out _))))
      go_wp2_with fail
      go_ret
      exact ⟨ret_int F2.out.symm, below_drewN (Bal (Below.refl _ _) _) _⟩
  · have F := Lib.hid (errF_out hin)
    generalize errF n d = v at *
    have hc : d < 1 ∨ (1 ≤ d ∧ 1000000000000000000 < d) ∨ (1 ≤ d ∧ d ≤ 1000000000000000000 ∧ n < -1000000000000000000) ∨ (1 ≤ d ∧ d ≤ 1000000000000000000 ∧ -1000000000000000000 ≤ n ∧ 1000000000000000000 < n) := by omega
    clear hin
    rcases hc with h | ⟨h, h'⟩ | ⟨h, h', h''⟩ | ⟨h, h', h'', h3⟩
    all_goals
      go_enter Try.func60, Try.ntmps60
      go_wp2_with fail
      go_ret
      exact ⟨ret_int F.out.symm, Bal (Below.refl _ _) _⟩
end Go.Proofs.Ytfangplfbbgphaa
