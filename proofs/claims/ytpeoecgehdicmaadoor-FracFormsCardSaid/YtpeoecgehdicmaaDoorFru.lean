/- Contracts of layer 1: Neg and Sub of the reference. -/
import Derived.Test.YtpeoecgehdicmaaDoorFrt
namespace Go.Proofs.YtpeoecgehdicmaaDoor
open Go.ChangeShapes Go.WideShapes Go.ChangeAt Go.RowKit
set_option linter.unusedVariables false
attribute [local go_sem ↓] Go.wp_at_zero Go.wp_at_succ

def subR (an ad bn bd : Int) : Int × Int × Int := if errB an ad bn bd = 0 then addF an ad (-bn) bd else (0, 0, errB an ad bn bd)
theorem VF.neg {n d : Int} (h : VF n d) : VF (-n) d := ⟨h.d1, h.d2, by have := h.n2; omega, by have := h.n1; omega, by rw [Int.natAbs_neg]; exact h.g⟩
end Go.Proofs.YtpeoecgehdicmaaDoor
