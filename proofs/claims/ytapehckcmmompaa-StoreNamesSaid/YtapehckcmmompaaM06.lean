/- Several texts in one. -/
import Derived.Deep.Matrix
import Derived.Deep.Slices
import Derived.Deep.Fields
import Derived.ChangeSlices
import Derived.ChangeSame
import Derived.ChangeArms
import Derived.Lib.SmallJoins
import Derived.Test.YtapehckcmmompaaM04
namespace Go.Proofs.Ytapehckcmmompaa
open Go.ChangeShapes Go.WideShapes Go.ChangeAt Go.RowKit Go.Deep Go.Joins
set_option linter.unusedVariables false
set_option maxRecDepth 100000
section
variable {H : Type} {enc : TypeId × Value → H} {w : World} {base : Nat} {held : Bool}
end
def RU (B : Nat) (X : World) (us : List Value) : Prop := ∀ (i : Nat) (u : Value), us[i]? = some u → ∃ A n c, u = .slice A n c ∧ n ≤ c ∧ c ≤ 9223372036854775807 ∧
 ∀ j, j < n → ∃ (g : Nat) (cs : Array Value) (x : Nat), A = some ⟨g, 0, none⟩ ∧ B ≤ g ∧ X.heap[g]? = some (.cells cs 5) ∧ cs[j]? = some (.int .u8 (x : Int)) ∧ x < 256
theorem OMx.ru {B : Nat} {w : World} {v : Value} {us : List Value} {m : List (List Nat)} (h : OMx B w v us m) : RU B w us := fun i u hu => by
 have hi := get_lt hu
 rw [h.len] at hi
 obtain ⟨l, hl⟩ := get_some hi
 have ho := h.row i u l hu hl
 have hb := h.byt l (List.mem_of_getElem? hl)
 obtain ⟨A, c, rfl, h1, h2, _⟩ := own_form ho
 refine ⟨A, l.length, c, rfl, h1, h2, fun j hj => ?_⟩
 obtain ⟨x, hx⟩ := get_some hj
 rcases ho.2 with ⟨_, h3⟩ | ⟨g, cap, cur, e1, e2, e3, e4, e5, e6, e7⟩
 ·omega
 ·simp only [Value.slice.injEq] at e1
  refine ⟨g, cur, x, e1.1, e2, e3, ?_, hb.at_ hx⟩
  have hv := bv_get hx
  rw [← e7, List.getElem?_take] at hv
  split at hv
  ·simpa using hv
  ·cases hv
theorem RU.next {B : Nat} {X Y : World} {us : List Value} (h : RU B X us) (hb : Below X.heap.size X Y) : RU B Y us := fun i u hu => by
 obtain ⟨A, n, c, e, h1, h2, h3⟩ := h i u hu
 refine ⟨A, n, c, e, h1, h2, fun j hj => ?_⟩
 obtain ⟨g, cs, x, k1, k2, k3, k4⟩ := h3 j hj
 exact ⟨g, cs, x, k1, k2, blk_next hb k3, k4⟩
theorem RU.set {B g o y : Nat} {X : World} {us : List Value} {cs : Array Value} (h : RU B X us) (hg : X.heap[g]? = some (.cells cs 5)) (hy : y < 256) : RU B (X.setCell ⟨g, o, none⟩ (.int .u8 (y : Int))) us := fun i u hu => by
 obtain ⟨A, n, c, e, h1, h2, h3⟩ := h i u hu
 refine ⟨A, n, c, e, h1, h2, fun j hj => ?_⟩
 obtain ⟨g', cs', x, k1, k2, k3, k4, k5⟩ := h3 j hj
 by_cases eg : g = g'
 ·subst eg
  rw [hg] at k3
  injection k3 with k3
  injection k3 with k3
  subst k3
  have hb := blk_set hg o (.int .u8 (y : Int))
  by_cases eo : o = j
  ·subst eo
   exact ⟨g, _, y, k1, k2, hb, by have := (Array.getElem?_eq_some_iff.1 k4).1; simp [this], hy⟩
  ·exact ⟨g, _, x, k1, k2, hb, by rw [Array.getElem?_setIfInBounds_ne eo]; exact k4, k5⟩
 ·exact ⟨g', cs', x, k1, k2, blk_set_other k3 eg o _, k4, k5⟩
end Go.Proofs.Ytapehckcmmompaa
