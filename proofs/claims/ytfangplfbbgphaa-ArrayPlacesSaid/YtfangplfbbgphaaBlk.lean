/- Small facts on blocks of memory: a block that is there stays there through calls that change nothing below the heap's size, and its cells are known. -/
import Derived.Test.YtfangplfbbgphaaRows
import Derived.WalkKit
import Derived.WalkSmall
namespace Go.Proofs.Ytfangplfbbgphaa
open Go.RowKit

theorem blk_lt {w : World} {b : Nat} {o : Obj} (h : w.heap[b]? = some o) : b < w.heap.size := (Array.getElem?_eq_some_iff.1 h).1
theorem blk_next {W w1 : World} (hb : Below W.heap.size W w1) {b : Nat} {o : Obj} (h : W.heap[b]? = some o) : w1.heap[b]? = some o := (hb.block b (blk_lt h)).trans h
theorem blk_alloc {w : World} {b : Nat} {o : Obj} (h : w.heap[b]? = some o) (x : Obj) : (w.alloc x).heap[b]? = some o := (Below.heap_alloc w x b (blk_lt h)).trans h
theorem blk_new (w : World) (x : Obj) : (w.alloc x).heap[w.heap.size]? = some x := heap_alloc_new w x
theorem blk_at {w : World} {b : Nat} (x : Obj) (h : b = w.heap.size) : (w.alloc x).heap[b]? = some x := by rw [h]; exact heap_alloc_new w x
theorem blk_drewN {w : World} {b : Nat} {o : Obj} (h : w.heap[b]? = some o) (n : Nat) : (w.drewN n).heap[b]? = some o := h
theorem blk_cell {w : World} {b : Nat} {cs : Array Value} {t : TypeId} (h : w.heap[b]? = some (.cells cs t)) (o : Nat) (v : Value) (hv : cs[o]? = some v) : w.cell? ⟨b, o, none⟩ = some v := by
  simp [World.cell?, h, hv]
theorem blk_frozen {w : World} {b : Nat} {cs : Array Value} {t : TypeId} (h : w.heap[b]? = some (.cells cs t)) (o : Nat) : w.frozen? ⟨b, o, none⟩ = false := by
  simp [World.frozen?, h]
theorem blk_set {w : World} {b : Nat} {cs : Array Value} {t : TypeId} {fz : Nat × Nat} (h : w.heap[b]? = some (.cells cs t fz)) (o : Nat) (v : Value) : (w.setCell ⟨b, o, none⟩ v).heap[b]? = some (.cells (cs.setIfInBounds o v) t fz) := by
  simp [World.setCell, Array.getElem?_modify, h]
theorem blk_set_other {w : World} {b : Nat} {x : Obj} (h : w.heap[b]? = some x) {b' : Nat} (hne : b' ≠ b) (o : Nat) (v : Value) : (w.setCell ⟨b', o, none⟩ v).heap[b]? = some x := by
  simp [World.setCell, Array.getElem?_modify, h, hne]
theorem Bset1 {w W : World} (h : Below w.heap.size w W) {B : Nat} (hB : w.heap.size ≤ B) (o : Nat) (x : Value) : Below w.heap.size w (W.setCell ⟨B, o, none⟩ x) := h.setCell hB x
end Go.Proofs.Ytfangplfbbgphaa
