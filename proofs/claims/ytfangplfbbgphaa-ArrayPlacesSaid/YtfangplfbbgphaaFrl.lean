/- Contracts of layer 1: Near of the program. -/
import Derived.Test.YtfangplfbbgphaaFrk
import Derived.Test.YtfangplfbbgphaaFry
namespace Go.Proofs.Ytfangplfbbgphaa
open Go.ChangeShapes Go.WideShapes Go.ChangeAt Go.RowKit
set_option linter.unusedVariables false
set_option maxRecDepth 100000
attribute [local go_sem ↓] Go.wp_at_zero Go.wp_at_succ

def NearR (N D n : Int) (r : Int × Int × Int) : Prop :=
  (errF N D ≠ 0 ∧ r = (0, 0, errF N D)) ∨ (errF N D = 0 ∧ (n < 1 ∨ 1000000000000000000 < n) ∧ r = (0, 0, 2)) ∨ (errF N D = 0 ∧ 1 ≤ n ∧ n ≤ 1000000000000000000 ∧ D ≤ n ∧ r = (N, D, 0)) ∨
  (errF N D = 0 ∧ 1 ≤ n ∧ n ≤ 1000000000000000000 ∧ n < D ∧ ∃ x y, Farey.Near N D n x y ∧ r = (x, y, 0))
theorem NearR.unique {N D n : Int} {r r' : Int × Int × Int} (h : NearR N D n r) (k : NearR N D n r') : r = r' := by
  rcases h with ⟨h1, rfl⟩ | ⟨h1, h2, rfl⟩ | ⟨h1, h2, h3, h4, rfl⟩ | ⟨h1, h2, h3, h4, x, y, h5, rfl⟩ <;> rcases k with ⟨k1, rfl⟩ | ⟨k1, k2, rfl⟩ | ⟨k1, k2, k3, k4, rfl⟩ | ⟨k1, k2, k3, k4, u, v, k5, rfl⟩
  all_goals first | rfl | omega | skip
  obtain ⟨rfl, rfl⟩ := h5.unique (by have := (errF_ok h1).d1; omega) k5
  rfl
def NPost (w : World) (N D n : Int) (e : Ending) (w' : World) : Prop := ∃ r, e = .returned (Rv r) ∧ NearR N D n r ∧ Below w.heap.size w w'
structure P1 (w W : World) (N D : Int) : Prop where
  a : W.heap[w.heap.size]? = some (.cells #[.int .i64 N, .int .i64 D] 34)
  z : W.heap[w.heap.size + 1]? = some (.cells #[.int .i64 0, .int .i64 0] 34)
  n : Below w.heap.size w W
theorem P1.next {w W W' : World} {N D : Int} (h : P1 w W N D) (hb : Below W.heap.size W W') : P1 w W' N D := ⟨blk_next hb h.a, blk_next hb h.z, Bgo h.n hb⟩
theorem P1.drewN {w W : World} {N D : Int} (h : P1 w W N D) (n : Nat) : P1 w (W.drewN n) N D := h.next (below_drewN (Below.refl _ _) n)
theorem P1.init (w : World) (N D : Int) : P1 w ((w.alloc (.cells #[.int .i64 N, .int .i64 D] 34)).alloc (.cells #[.int .i64 0, .int .i64 0] 34)) N D := ⟨blk1 w _ _, blk2 w _ _, Bal (Bal (Below.refl _ _) _) _⟩
theorem natmul {a b : Int} (ha : 0 ≤ a) (hb : 0 ≤ b) : ((a.natAbs * b.natAbs : Nat) : Int) = a * b := by rw [Int.natCast_mul, show ((a.natAbs : Nat) : Int) = a by omega, show ((b.natAbs : Nat) : Int) = b by omega]
end Go.Proofs.Ytfangplfbbgphaa
