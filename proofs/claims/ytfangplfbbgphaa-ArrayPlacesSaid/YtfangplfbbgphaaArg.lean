/- Contracts of layer 4: small functions of the references. -/
import Derived.Test.YtfangplfbbgphaaAre
namespace Go.Proofs.Ytfangplfbbgphaa
open Go.ChangeShapes Go.WideShapes Go.ChangeAt Go.RowKit
set_option linter.unusedVariables false
set_option linter.unusedSimpArgs false
attribute [local go_sem ↓] Go.wp_at_zero Go.wp_at_succ
theorem first_calls (w : World) : Calls Try.prog 55 #[.int .i64 0, .int .i64 0, .int .i64 0] w fun e w' => e = .returned (.int .i64 0) ∧ Below w.heap.size w w' := by
  go_enter Try.func55, Try.ntmps55
  go_wp2_with fail
  go_ret
  exact ⟨rfl, Below.refl _ _⟩
theorem refOne_calls (w : World) : Calls Try.prog 59 #[] w fun e w' => e = .returned (Fv 1 1) ∧ Below w.heap.size w w' := by
  have C1 := Lib.hid (fun W => refOf_calls 1 W)
  go_enter Try.func59, Try.ntmps59
  go_wp2_with fail
  refine (C1.out _).mono ?_
  rintro e w1 ⟨rfl, hb⟩
  have Z := Lib.hid (blk_next hb (blk_new w _))
  have NN := Lib.hid (Bgo (Bal (Below.refl _ _) _) hb)
  have hl := blk_lt Z.out
  have c0 := blk_cell Z.out 0 _ rfl
  have c1 := blk_cell Z.out 1 _ rfl
  have f0 := blk_frozen Z.out 0
  have f1 := blk_frozen Z.out 1
  clear hb
  go_wp2_with fail
  have e0 := blk_cell (blk_set (blk_set Z.out 0 (.int .i64 1)) 1 (.int .i64 1)) 0 _ rfl
  have e1 := blk_cell (blk_set (blk_set Z.out 0 (.int .i64 1)) 1 (.int .i64 1)) 1 _ rfl
  exact bodyPost_ret (v := Fv 1 1) (by simp [results, Try.results59, go_sem, e0, e1]) rfl ⟨rfl, Bset1 (Bset1 NN.out (Nat.le_refl _) _ _) (Nat.le_refl _) _ _⟩
end Go.Proofs.Ytfangplfbbgphaa
