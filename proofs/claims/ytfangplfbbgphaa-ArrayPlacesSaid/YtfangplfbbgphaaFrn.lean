/- Contracts of layer 1: floors and expansions. -/
import Derived.Test.YtfangplfbbgphaaFrm
namespace Go.Proofs.Ytfangplfbbgphaa
open Go.ChangeShapes Go.WideShapes Go.ChangeAt Go.RowKit
set_option linter.unusedVariables false
set_option maxRecDepth 100000
attribute [local go_sem ↓] Go.wp_at_zero Go.wp_at_succ

theorem floor_bd {x y M : Int} (hM : 0 ≤ M) (h3 : 1 ≤ y) (_ : True) (h1 : -M ≤ x) (h2 : x ≤ M) : -M ≤ x / y ∧ x / y ≤ M := by
  have h5 := Int.mul_ediv_add_emod x y
  have h7 := Int.emod_lt_of_pos x (show 0 < y by omega)
  by_cases hx : 0 ≤ x
  · have := Int.ediv_nonneg hx (show 0 ≤ y by omega)
    have := Int.ediv_le_self y hx
    omega
  · have h8 : x / y < 0 := Int.ediv_neg_of_neg_of_pos (by omega) (by omega)
    have h12 : (y - 1) * (x / y) ≤ (y - 1) * (-1) := Int.mul_le_mul_of_nonneg_left (by omega) (by omega)
    have h13 : (y - 1) * (x / y) = y * (x / y) - x / y := by rw [Int.sub_mul, Int.one_mul]
    omega
def ExPost (w : World) (er : Int) (l : List Int) (e : Ending) (w' : World) : Prop := ∃ v, e = .returned (.tuple #[v, .int .i64 er]) ∧ w'.ownsRow w.heap.size 2 1 v l.length (lv l) ∧ Below w.heap.size w w'
def exR (N D : Int) : List Int := if errF N D = 0 then Farey.ex N D else []
end Go.Proofs.Ytfangplfbbgphaa
