/- Contracts of layer 1: small functions of the laws, and Floor. -/
import Derived.Test.YtfangplfbbgphaaFru
namespace Go.Proofs.Ytfangplfbbgphaa
open Go.ChangeShapes Go.WideShapes Go.ChangeAt Go.RowKit
set_option linter.unusedVariables false
set_option maxRecDepth 100000
attribute [local go_sem ↓] Go.wp_at_zero Go.wp_at_succ

theorem Rd.num {w : World} {A : Option Addr} {L : List Int} (h : Rd w 1 A L.length (lv L)) {i : Nat} (hi : i < L.length) : ∃ b off, A = some ⟨b, off, none⟩ ∧ b < w.heap.size ∧ w.cell? ⟨b, off + i, none⟩ = some (.int .i64 L[i]) := by
  obtain ⟨b, off, e, hl, hc⟩ := h.2 (by omega)
  exact ⟨b, off, e, hl, hc i _ (lv_get (List.getElem?_eq_getElem hi))⟩
def flR (n d : Int) : Int := if errF n d = 0 then n / d else 0
end Go.Proofs.Ytfangplfbbgphaa
