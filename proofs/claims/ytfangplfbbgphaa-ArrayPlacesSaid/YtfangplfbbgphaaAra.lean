/- Contracts of layer 4: globes, parameters, whole numbers (program and reference). -/
import Derived.Test.YtfangplfbbgphaaFrc
namespace Go.Proofs.Ytfangplfbbgphaa
open Go.ChangeShapes Go.WideShapes Go.ChangeAt Go.RowKit
set_option linter.unusedVariables false
set_option linter.unusedSimpArgs false
attribute [local go_sem ↓] Go.wp_at_zero Go.wp_at_succ
abbrev Gv (a b : Int) : Value := .agg #[.int .i64 a, .int .i64 b]
def okG (a b : Int) : Prop := 1 ≤ a ∧ a ≤ 1000 ∧ 1 ≤ b ∧ b ≤ 1000
instance (a b : Int) : Decidable (okG a b) := by unfold okG; infer_instance
def errG (a b : Int) : Int := if okG a b then 0 else 2
def prmB (n d : Int) : Bool := okF n d && (decide (d ≤ 20) && (decide (-20 ≤ n) && decide (n ≤ 20)))
theorem gcheck_calls (a b : Int) (w : World) : Calls Try.prog 26 #[Gv a b] w fun e w' => e = .returned (.int .i64 (errG a b)) ∧ Below w.heap.size w w' := by
  have hc : a < 1 ∨ (1 ≤ a ∧ 1000 < a) ∨ (1 ≤ a ∧ a ≤ 1000 ∧ b < 1) ∨ (1 ≤ a ∧ a ≤ 1000 ∧ 1 ≤ b ∧ 1000 < b) ∨ (1 ≤ a ∧ a ≤ 1000 ∧ 1 ≤ b ∧ b ≤ 1000) := by omega
  have F : Hid (errG a b = if okG a b then 0 else 2) := Lib.hid rfl
  generalize errG a b = v at *
  rcases hc with h | ⟨h, h'⟩ | ⟨h, h', h''⟩ | ⟨h, h', h'', h3⟩ | ⟨h, h', h'', h3⟩
  all_goals
    first | (replace F : Hid (v = 0) := Lib.hid (F.out.trans (if_pos (by unfold okG; omega)))) | (replace F : Hid (v = 2) := Lib.hid (F.out.trans (if_neg (by unfold okG; omega))))
    go_enter Try.func26, Try.ntmps26
    go_wp2_with fail
    go_ret
    exact ⟨ret_int F.out.symm, Bal (Below.refl _ _) _⟩
theorem refgcheck_calls (a b : Int) (w : World) : Calls Try.prog 24 #[Gv a b] w fun e w' => e = .returned (.int .i64 (errG a b)) ∧ Below w.heap.size w w' := by
  have hc : a < 1 ∨ (1 ≤ a ∧ 1000 < a) ∨ (1 ≤ a ∧ a ≤ 1000 ∧ b < 1) ∨ (1 ≤ a ∧ a ≤ 1000 ∧ 1 ≤ b ∧ 1000 < b) ∨ (1 ≤ a ∧ a ≤ 1000 ∧ 1 ≤ b ∧ b ≤ 1000) := by omega
  have F : Hid (errG a b = if okG a b then 0 else 2) := Lib.hid rfl
  generalize errG a b = v at *
  rcases hc with h | ⟨h, h'⟩ | ⟨h, h', h''⟩ | ⟨h, h', h'', h3⟩ | ⟨h, h', h'', h3⟩
  all_goals
    first | (replace F : Hid (v = 0) := Lib.hid (F.out.trans (if_pos (by unfold okG; omega)))) | (replace F : Hid (v = 2) := Lib.hid (F.out.trans (if_neg (by unfold okG; omega))))
    go_enter Try.func24, Try.ntmps24
    go_wp2_with fail
    go_ret
    exact ⟨ret_int F.out.symm, Bal (Below.refl _ _) _⟩
theorem whole_calls (n : Int) (w : World) : Calls Try.prog 45 #[.int .i64 n] w fun e w' => e = .returned (Fv n 1) ∧ Below w.heap.size w w' := by
  go_enter Try.func45, Try.ntmps45
  go_wp2_with fail
  exact bodyPost_ret (v := Fv n 1) (by simp [results, Try.results45, go_sem]) rfl ⟨rfl, Bal (Below.refl _ _) _⟩
theorem refOf_calls (n : Int) (w : World) : Calls Try.prog 48 #[.int .i64 n] w fun e w' => e = .returned (Fv n 1) ∧ Below w.heap.size w w' := by
  go_enter Try.func48, Try.ntmps48
  go_wp2_with fail
  exact bodyPost_ret (v := Fv n 1) (by simp [results, Try.results48, go_sem]) rfl ⟨rfl, Bal (Below.refl _ _) _⟩
end Go.Proofs.Ytfangplfbbgphaa
