/- Several texts in one. -/
import Derived.Test.YtapehckcmmompaaM04
namespace Go.Proofs.Ytapehckcmmompaa
open Gf
set_option linter.unusedVariables false
set_option maxRecDepth 100000
section
variable {d : List (List Nat)} {q M k a y : Nat}
end
theorem solR_byt {D M : Nat} {m : List (List Nat)} (h : Ok D M m) (hb : ∀ l ∈ m, Byt l) : ∀ l ∈ solR D M m, Byt l := by
 have d8 := h.d8
 have m4 := h.m4
 refine gjTo_bytR (fun l hl => ?_) (fun l hl => ?_) _
 ·simp only [matM, List.mem_map] at hl
  obtain ⟨j, hj, rfl⟩ := hl
  intro x hx
  obtain ⟨i, hi, rfl⟩ := List.mem_map.1 hx
  have hj' := ((choTo_le D m (goneL D m).length M).2.2 j hj).1
  obtain ⟨k, hk⟩ := List.mem_iff_getElem?.1 hi
  have := (lostL_rank _ hk).1
  exact fac_lt (by omega) (by omega)
 ·simp only [matR, List.mem_map] at hl
  obtain ⟨j, hj, rfl⟩ := hl
  have hj' := ((choTo_le D m (goneL D m).length M).2.2 j hj).1
  exact synTo_byt hb d8 (by omega) (by rw [h.len]; omega) D (Nat.le_refl _)
theorem dataL_byt {D M : Nat} {m : List (List Nat)} (h : Ok D M m) (hb : ∀ l ∈ m, Byt l) : ∀ l ∈ dataL D M m, Byt l := fun l hl => by
 simp only [dataL, List.mem_map, List.mem_range] at hl
 obtain ⟨i, hi, rfl⟩ := hl
 split
 ·exact rows_getD (solR_byt h hb) Byt.nil _
 ·exact rows_getD hb Byt.nil _
section
variable {d : List (List Nat)} {q M k a y : Nat}
end
end Go.Proofs.Ytapehckcmmompaa
