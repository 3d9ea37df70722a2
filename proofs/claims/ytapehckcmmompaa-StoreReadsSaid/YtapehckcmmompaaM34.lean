/- Several texts in one. -/
import Derived.Test.YtapehckcmmompaaM24
import Derived.Test.YtapehckcmmompaaM28
namespace Go.Proofs.Ytapehckcmmompaa
open Go.ChangeShapes Go.WideShapes Go.ChangeAt Go.RowKit
set_option linter.unusedVariables false
set_option maxRecDepth 100000
theorem bool_info : (Try.prog.info? 4).map (fun i => (i.zero, i.size, i.bytes)) = some (some (.bool false), 1, 1) := by kernel_rfl
theorem make_bools (W : World) (n : Nat) (h : n ≤ 1000000) : (Instr.makeSlice 61 (.int .i64 (n : Int)) (.int .i64 (n : Int))).run Try.prog W = .ok (.slice (some ⟨W.heap.size, 0, none⟩) n n) (W.alloc (.cells (madeCells #[.bool false] n) 4)) :=
 run_make_row' 61 4 (.bool false) 1 Try.underlying61 bool_info rfl .i64 .i64 n (by omega) (by omega) W
def pbO (pl : List Bool) : Obj := .cells (pl.map Value.bool).toArray 4
theorem pb_new {W : World} {g : Nat} (h : W.heap[g]? = some (.cells (madeCells #[.bool false] 5) 4)) : W.heap[g]? = some (pbO [false, false, false, false, false]) := h.trans (by kernel_rfl)
theorem pb_cell {W : World} {g k : Nat} {pl : List Bool} {v : Bool} (h : W.heap[g]? = some (pbO pl)) (hk : pl[k]? = some v) : W.cell? ⟨g, k, none⟩ = some (.bool v) := blk_cell h k _ (by simp [hk])
theorem pb_set {W : World} {g k : Nat} {pl : List Bool} (h : W.heap[g]? = some (pbO pl)) : (W.setCell ⟨g, k, none⟩ (.bool true)).heap[g]? = some (pbO (pl.set k true)) := by
 rw [blk_set h k _]
 unfold pbO
 congr 2
 rw [List.setIfInBounds_toArray, List.map_set]
theorem ne_bool_u8 : (4 : TypeId) ≠ 5 := by decide
theorem ne_bool_sl : (4 : TypeId) ≠ 26 := by decide
theorem ne_bool_dk : (4 : TypeId) ≠ 46 := by decide
theorem ne_bool_ob : (4 : TypeId) ≠ 50 := by decide
abbrev nmsO : Obj := .cells #[.string ⟨#[97]⟩, .string ⟨#[98]⟩, .string ⟨#[99]⟩, .string ⟨#[100]⟩, .string ⟨#[101]⟩] 9
theorem nms_cell {W : World} {g k : Nat} (h : W.heap[g]? = some nmsO) (hk : k < 5) : W.cell? ⟨g, k, none⟩ = some (.string (nmK k)) := by
 have h2 : k = 0 ∨ k = 1 ∨ k = 2 ∨ k = 3 ∨ k = 4 := by omega
 rcases h2 with rfl | rfl | rfl | rfl | rfl <;> exact blk_cell h _ _ rfl
theorem tmod_nat {x : Int} {n : Nat} (hx : 0 ≤ x) (hn : 0 < n) : ∃ k : Nat, Int.tmod x (n : Int) = (k : Int) ∧ k < n := by
 have h1 := Int.tmod_nonneg (n : Int) hx
 have h2 := Int.tmod_lt_of_pos x (show (0 : Int) < (n : Int) by omega)
 exact ⟨(Int.tmod x n).toNat, by omega, by omega⟩
theorem tmod_five (q : Int) : -5 < Int.tmod q 5 ∧ Int.tmod q 5 < 5 := ⟨Int.lt_tmod_of_pos q (by omega), Int.tmod_lt_of_pos q (by omega)⟩
theorem new_facts {x y : Int} (hz : newE x y = 0) : ∃ (D P : Nat), x = D ∧ y = P ∧ 1 ≤ D ∧ D ≤ 8 ∧ P ≤ 4 ∧ newS x y = ((D : Int), (P : Int), List.replicate (D + P) ⟨false, []⟩, []) := by
 unfold newE at hz
 split at hz
 ·rename_i hs
  obtain ⟨⟨x1, x8⟩, y0, y4⟩ := szB_iff.1 hs
  obtain ⟨D, rfl⟩ : ∃ D : Nat, x = D := ⟨x.toNat, by omega⟩
  obtain ⟨P, rfl⟩ : ∃ P : Nat, y = P := ⟨y.toNat, by omega⟩
  refine ⟨D, P, rfl, rfl, by omega, by omega, by omega, ?_⟩
  unfold newS; rw [if_pos hs]; simp [show ((D : Int) + (P : Int)).toNat = D + P by omega]
 ·cases hz
end Go.Proofs.Ytapehckcmmompaa
