/- Several texts in one. -/
import Derived.Lib.SplitLaws
import Derived.Lib.Join
import Derived.Lib.IndexBytes
import Derived.Test.YtbbnkclajpaghaaGreatDoorRows
import Derived.WalkKit
import Derived.WalkSmall
import Derived.ProofKit
import Derived.OpenShut
import Derived.WalkLawsBesides
import Derived.WalkSpells
import Derived.Outline
import Derived.Lib.Hide
import Derived.Deep.QuietTactic
import Derived.BigQuiet
import Derived.RegionTactic
import Derived.Deep.RegionHeld3
import Derived.Deep.DrawnRows
import Derived.Laws.BitsAllLaws
import Derived.StillTailTactics
import Derived.Lib.ItoaNum
import Derived.Lib.ItoaMem
import Derived.Lib.ItoaLen
import Derived.Lib.ParseIntB
import Derived.Lib.IndexMore
import Derived.Lib.IndexLaws
set_option maxHeartbeats 8000000
set_option maxRecDepth 100000
set_option linter.unusedVariables false
set_option linter.unusedSimpArgs false
namespace Go.Proofs.YtbbnkclajpaghaaGreatDoor.Cxm
def g2 (a b : Int) : Int := (Int.gcd a b : Nat)
def g3 (a b c : Int) : Int := g2 (g2 a b) c
def fitsB (x : Int) : Bool := decide (-1000000000 ≤ x ∧ x ≤ 1000000000)
def chkB (re im den : Int) : Bool := decide (1 ≤ den ∧ den ≤ 1000000000) && (fitsB re && (fitsB im && decide (g3 re im den = 1)))
def sg (re im den : Int) : Int := if den < 0 then -(g3 re im den) else g3 re im den
theorem g2_nonneg (a b : Int) : 0 ≤ g2 a b := by unfold g2; omega
theorem g3_nonneg (a b c : Int) : 0 ≤ g3 a b c := g2_nonneg _ _
theorem g2_nat (a b : Int) : (g2 a b).natAbs = Nat.gcd a.natAbs b.natAbs := by unfold g2 Int.gcd; omega
theorem g3_nat (a b c : Int) : (g3 a b c).natAbs = Nat.gcd (Nat.gcd a.natAbs b.natAbs) c.natAbs := by unfold g3; rw [g2_nat, g2_nat]
theorem g2_comm (a b : Int) : g2 a b = g2 b a := by unfold g2; rw [Int.gcd_comm]
theorem g2_zero (a : Int) : g2 a 0 = a.natAbs := by unfold g2; simp
theorem g2_step (a b : Int) : g2 b (a.tmod b) = g2 a b := by
 unfold g2 Int.gcd
 rw [Int.natAbs_tmod]
 congr 1
 rw [Nat.gcd_comm, ← Nat.gcd_rec, Nat.gcd_comm]
theorem tmod_bd (a b : Int) (hb : b ≠ 0) : (a.tmod b).natAbs < b.natAbs := by
 rw [Int.natAbs_tmod]; exact Nat.mod_lt _ (by omega)
theorem g2_le {a b : Int} (h : b ≠ 0) : g2 a b ≤ b.natAbs := by
 have e := g2_nat a b
 have n := g2_nonneg a b
 have := Nat.le_of_dvd (by omega) (Nat.gcd_dvd_right a.natAbs b.natAbs)
 omega
theorem g2_bd (a b K : Int) (ha : a.natAbs ≤ K) (hb : b.natAbs ≤ K) : g2 a b ≤ K := by
 by_cases h : b = 0
 ·subst h; rw [g2_zero]; exact ha
 ·have := g2_le (a := a) h; omega
theorem chk_iff {a b c : Int} : chkB a b c = true ↔ (1 ≤ c ∧ c ≤ 1000000000) ∧ (-1000000000 ≤ a ∧ a ≤ 1000000000) ∧ (-1000000000 ≤ b ∧ b ≤ 1000000000) ∧ g3 a b c = 1 := by
 simp [chkB, fitsB]
def divR (p2 q2 n2 d2 e2 : Int) : Int × Int × Int × Int :=
 if fitsB (p2 * d2) && (fitsB (q2 * d2) && fitsB (n2 * e2)) then (p2 * d2, q2 * d2, n2 * e2, 0) else (0, 0, 0, 16)
end Go.Proofs.YtbbnkclajpaghaaGreatDoor.Cxm
namespace Go.Proofs.YtbbnkclajpaghaaGreatDoor
def valD (d1 d2 : Int) : Int := (Nat.lcm d1.natAbs d2.natAbs : Nat)
def valO (n1 d1 n2 d2 : Int) : Option (Int × Int × Int) :=
 if valD d1 d2 ≤ 1000000000 ∧ Cxm.chkB (n1 * (valD d1 d2 / d1)) (n2 * (valD d1 d2 / d2)) (valD d1 d2) = true then some (n1 * (valD d1 d2 / d1), n2 * (valD d1 d2 / d2), valD d1 d2) else none
end Go.Proofs.YtbbnkclajpaghaaGreatDoor
namespace Go.Proofs.YtbbnkclajpaghaaGreatDoor
def wordsL (c : UInt8) : List UInt8 → List (List UInt8)
 | [] => [[]]
 | x :: r => if x = c then [] :: wordsL c r else match wordsL c r with
  | [] => [[x]]
  | h :: t => (x :: h) :: t
theorem index_cons_eq (c : UInt8) (r : List UInt8) : Lib.index (c :: r) [c] = ((0 : Nat) : Int) := by rw [Lib.index]; simp [List.isPrefixOf]
theorem index_cons_ne {x c : UInt8} (h : x ≠ c) (r : List UInt8) : Lib.index (x :: r) [c] = if Lib.index r [c] == -1 then -1 else Lib.index r [c] + 1 := by
 have hp : ([c] : List UInt8).isPrefixOf (x :: r) = false := by simp [List.isPrefixOf, Ne.symm h]
 rw [Lib.index, hp]; simp
theorem index_of_pos {c : UInt8} {r : List UInt8} {k : Nat} (h : Lib.count r [c] = k + 1) : ∃ j : Nat, Lib.index r [c] = j := by
 by_cases hm : Lib.index r [c] = -1
 ·rw [Lib.count_miss hm] at h; cases h
 ·have := Lib.index_ge r [c]
  exact ⟨(Lib.index r [c]).toNat, by omega⟩
theorem splitK_words (c : UInt8) : ∀ (s : List UInt8), Lib.splitK [c] 0 (Lib.count s [c]) s = wordsL c s
 | [] => by rw [Lib.count_miss (by simp [Lib.index])]; rfl
 | x :: r => by
  have ih := splitK_words c r
  by_cases e : x = c
  ·subst e
   rw [Lib.count_cons_eq, Nat.add_comm]
   unfold Lib.splitK wordsL
   rw [index_cons_eq, if_neg (by decide), if_pos rfl]
   simp only [Int.toNat_natCast, Nat.zero_add, List.take_zero, List.length_singleton, List.drop_one, List.tail_cons]
   rw [ih]
  ·rw [Lib.count_cons_ne x c r e]
   generalize hk : Lib.count r [c] = k at ih
   cases k with
   | zero =>
    unfold Lib.splitK at ih ⊢
    unfold wordsL
    rw [if_neg e, ← ih]
   | succ k =>
    obtain ⟨j, hj⟩ := index_of_pos hk
    unfold Lib.splitK at ih ⊢
    unfold wordsL
    rw [index_cons_ne e, hj, if_neg (show ¬ ((j : Int) == -1) = true by rw [beq_iff_eq]; omega), if_neg (show ¬ ((j : Int) + 1 == -1) = true by rw [beq_iff_eq]; omega), if_neg e]
    rw [hj, if_neg (show ¬ ((j : Int) == -1) = true by rw [beq_iff_eq]; omega)] at ih
    rw [← ih]
    simp only [Nat.add_zero, List.length_singleton, Int.toNat_natCast]
    rw [show ((j : Int) + 1).toNat = j + 1 by omega]
    rfl
theorem split_words (s : ByteArray) (c : UInt8) : (Lib.splitB ⟨#[c]⟩ 0 (Lib.countB s ⟨#[c]⟩) s).map (·.data.toList) = wordsL c s.data.toList := by
 rw [Lib.splitB_data]
 exact splitK_words c s.data.toList
def linesL : Nat → List UInt8 → List (List UInt8)
 | 0, _ => []
 | f + 1, s => if s = [] then [] else (Lib.cut s [10]).1 :: linesL f (Lib.cut s [10]).2.1
end Go.Proofs.YtbbnkclajpaghaaGreatDoor
namespace Go.Proofs.YtbbnkclajpaghaaGreatDoor
open Go.RowKit
theorem blk_lt {w : World} {b : Nat} {o : Obj} (h : w.heap[b]? = some o) : b < w.heap.size := (Array.getElem?_eq_some_iff.1 h).1
theorem blk_next {W w1 : World} (hb : Below W.heap.size W w1) {b : Nat} {o : Obj} (h : W.heap[b]? = some o) : w1.heap[b]? = some o := (hb.block b (blk_lt h)).trans h
theorem blk_alloc {w : World} {b : Nat} {o : Obj} (h : w.heap[b]? = some o) (x : Obj) : (w.alloc x).heap[b]? = some o := (Below.heap_alloc w x b (blk_lt h)).trans h
theorem blk_new (w : World) (x : Obj) : (w.alloc x).heap[w.heap.size]? = some x := heap_alloc_new w x
theorem blk_at {w : World} {b : Nat} (x : Obj) (h : b = w.heap.size) : (w.alloc x).heap[b]? = some x := by rw [h]; exact heap_alloc_new w x
theorem blk_cell {w : World} {b : Nat} {cs : Array Value} {t : TypeId} (h : w.heap[b]? = some (.cells cs t)) (o : Nat) (v : Value) (hv : cs[o]? = some v) : w.cell? ⟨b, o, none⟩ = some v := by
 simp [World.cell?, h, hv]
theorem blk_frozen {w : World} {b : Nat} {cs : Array Value} {t : TypeId} (h : w.heap[b]? = some (.cells cs t)) (o : Nat) : w.frozen? ⟨b, o, none⟩ = false := by
 simp [World.frozen?, h]
theorem blk_set {w : World} {b : Nat} {cs : Array Value} {t : TypeId} {fz : Nat × Nat} (h : w.heap[b]? = some (.cells cs t fz)) (o : Nat) (v : Value) : (w.setCell ⟨b, o, none⟩ v).heap[b]? = some (.cells (cs.setIfInBounds o v) t fz) := by
 simp [World.setCell, Array.getElem?_modify, h]
theorem blk_set_other {w : World} {b : Nat} {x : Obj} (h : w.heap[b]? = some x) {b' : Nat} (hne : b' ≠ b) (o : Nat) (v : Value) : (w.setCell ⟨b', o, none⟩ v).heap[b]? = some x := by
 simp [World.setCell, Array.getElem?_modify, h, hne]
theorem Bset1 {w W : World} (h : Below w.heap.size w W) {B : Nat} (hB : w.heap.size ≤ B) (o : Nat) (x : Value) : Below w.heap.size w (W.setCell ⟨B, o, none⟩ x) := h.setCell hB x
theorem zh {p : Prop} (h : p) : Hid p := h
theorem zn {W w1 : World} (hb : Below W.heap.size W w1) {b : Nat} {o : Obj} (h : W.heap[b]? = some o) : Hid (w1.heap[b]? = some o) := blk_next hb h
theorem zl {w : World} (x : Obj) : Hid (Below w.heap.size w (w.alloc x)) ∧ Hid ((w.alloc x).heap[w.heap.size]? = some x) := ⟨(Below.refl _ _).alloc (Nat.le_refl _) x, blk_new w x⟩
theorem zs {T X : World} (e : T = X) {b : Nat} {o o' : Obj} (h : T.heap[b]? = some o') (ho : o' = o := by rfl) : Hid (X.heap[b]? = some o) := by rw [← e, ← ho]; exact h
theorem zt {T X : World} (e : T = X) {p : World → Prop} (h : p T) : Hid (p X) := by rw [← e]; exact h
theorem zcl1 {w : World} {b : Nat} {T : TypeId} {v0 : Value} (h : w.heap[b]? = some (.cells #[v0] T)) : w.cell? ⟨b, 0, none⟩ = some v0 ∧ b < w.heap.size := ⟨blk_cell h 0 _ rfl, blk_lt h⟩
theorem zfk1 {w : World} {b : Nat} {T : TypeId} {v0 : Value} (h : w.heap[b]? = some (.cells #[v0] T)) : w.cell? ⟨b, 0, none⟩ = some v0 ∧ w.frozen? ⟨b, 0, none⟩ = false := ⟨blk_cell h 0 _ rfl, blk_frozen h 0⟩
theorem zfl1 {w : World} {b : Nat} {T : TypeId} {v0 : Value} (h : w.heap[b]? = some (.cells #[v0] T)) : w.cell? ⟨b, 0, none⟩ = some v0 ∧ w.frozen? ⟨b, 0, none⟩ = false ∧ b < w.heap.size := ⟨blk_cell h 0 _ rfl, blk_frozen h 0, blk_lt h⟩
theorem zck2 {w : World} {b : Nat} {T : TypeId} {v0 v1 : Value} (h : w.heap[b]? = some (.cells #[v0, v1] T)) : w.cell? ⟨b, 0, none⟩ = some v0 ∧ w.cell? ⟨b, 1, none⟩ = some v1 := ⟨blk_cell h 0 _ rfl, blk_cell h 1 _ rfl⟩
theorem zcl2 {w : World} {b : Nat} {T : TypeId} {v0 v1 : Value} (h : w.heap[b]? = some (.cells #[v0, v1] T)) : w.cell? ⟨b, 0, none⟩ = some v0 ∧ w.cell? ⟨b, 1, none⟩ = some v1 ∧ b < w.heap.size := ⟨blk_cell h 0 _ rfl, blk_cell h 1 _ rfl, blk_lt h⟩
theorem zfk2 {w : World} {b : Nat} {T : TypeId} {v0 v1 : Value} (h : w.heap[b]? = some (.cells #[v0, v1] T)) : w.cell? ⟨b, 0, none⟩ = some v0 ∧ w.frozen? ⟨b, 0, none⟩ = false ∧ w.cell? ⟨b, 1, none⟩ = some v1 ∧ w.frozen? ⟨b, 1, none⟩ = false := ⟨blk_cell h 0 _ rfl, blk_frozen h 0, blk_cell h 1 _ rfl, blk_frozen h 1⟩
theorem zfl2 {w : World} {b : Nat} {T : TypeId} {v0 v1 : Value} (h : w.heap[b]? = some (.cells #[v0, v1] T)) : w.cell? ⟨b, 0, none⟩ = some v0 ∧ w.frozen? ⟨b, 0, none⟩ = false ∧ w.cell? ⟨b, 1, none⟩ = some v1 ∧ w.frozen? ⟨b, 1, none⟩ = false ∧ b < w.heap.size := ⟨blk_cell h 0 _ rfl, blk_frozen h 0, blk_cell h 1 _ rfl, blk_frozen h 1, blk_lt h⟩
theorem zck3 {w : World} {b : Nat} {T : TypeId} {v0 v1 v2 : Value} (h : w.heap[b]? = some (.cells #[v0, v1, v2] T)) : w.cell? ⟨b, 0, none⟩ = some v0 ∧ w.cell? ⟨b, 1, none⟩ = some v1 ∧ w.cell? ⟨b, 2, none⟩ = some v2 := ⟨blk_cell h 0 _ rfl, blk_cell h 1 _ rfl, blk_cell h 2 _ rfl⟩
theorem zcl3 {w : World} {b : Nat} {T : TypeId} {v0 v1 v2 : Value} (h : w.heap[b]? = some (.cells #[v0, v1, v2] T)) : w.cell? ⟨b, 0, none⟩ = some v0 ∧ w.cell? ⟨b, 1, none⟩ = some v1 ∧ w.cell? ⟨b, 2, none⟩ = some v2 ∧ b < w.heap.size := ⟨blk_cell h 0 _ rfl, blk_cell h 1 _ rfl, blk_cell h 2 _ rfl, blk_lt h⟩
theorem zfk3 {w : World} {b : Nat} {T : TypeId} {v0 v1 v2 : Value} (h : w.heap[b]? = some (.cells #[v0, v1, v2] T)) : w.cell? ⟨b, 0, none⟩ = some v0 ∧ w.frozen? ⟨b, 0, none⟩ = false ∧ w.cell? ⟨b, 1, none⟩ = some v1 ∧ w.frozen? ⟨b, 1, none⟩ = false ∧ w.cell? ⟨b, 2, none⟩ = some v2 ∧ w.frozen? ⟨b, 2, none⟩ = false := ⟨blk_cell h 0 _ rfl, blk_frozen h 0, blk_cell h 1 _ rfl, blk_frozen h 1, blk_cell h 2 _ rfl, blk_frozen h 2⟩
theorem zfl3 {w : World} {b : Nat} {T : TypeId} {v0 v1 v2 : Value} (h : w.heap[b]? = some (.cells #[v0, v1, v2] T)) : w.cell? ⟨b, 0, none⟩ = some v0 ∧ w.frozen? ⟨b, 0, none⟩ = false ∧ w.cell? ⟨b, 1, none⟩ = some v1 ∧ w.frozen? ⟨b, 1, none⟩ = false ∧ w.cell? ⟨b, 2, none⟩ = some v2 ∧ w.frozen? ⟨b, 2, none⟩ = false ∧ b < w.heap.size := ⟨blk_cell h 0 _ rfl, blk_frozen h 0, blk_cell h 1 _ rfl, blk_frozen h 1, blk_cell h 2 _ rfl, blk_frozen h 2, blk_lt h⟩
theorem zck4 {w : World} {b : Nat} {T : TypeId} {v0 v1 v2 v3 : Value} (h : w.heap[b]? = some (.cells #[v0, v1, v2, v3] T)) : w.cell? ⟨b, 0, none⟩ = some v0 ∧ w.cell? ⟨b, 1, none⟩ = some v1 ∧ w.cell? ⟨b, 2, none⟩ = some v2 ∧ w.cell? ⟨b, 3, none⟩ = some v3 := ⟨blk_cell h 0 _ rfl, blk_cell h 1 _ rfl, blk_cell h 2 _ rfl, blk_cell h 3 _ rfl⟩
theorem zcl4 {w : World} {b : Nat} {T : TypeId} {v0 v1 v2 v3 : Value} (h : w.heap[b]? = some (.cells #[v0, v1, v2, v3] T)) : w.cell? ⟨b, 0, none⟩ = some v0 ∧ w.cell? ⟨b, 1, none⟩ = some v1 ∧ w.cell? ⟨b, 2, none⟩ = some v2 ∧ w.cell? ⟨b, 3, none⟩ = some v3 ∧ b < w.heap.size := ⟨blk_cell h 0 _ rfl, blk_cell h 1 _ rfl, blk_cell h 2 _ rfl, blk_cell h 3 _ rfl, blk_lt h⟩
theorem zfk4 {w : World} {b : Nat} {T : TypeId} {v0 v1 v2 v3 : Value} (h : w.heap[b]? = some (.cells #[v0, v1, v2, v3] T)) : w.cell? ⟨b, 0, none⟩ = some v0 ∧ w.frozen? ⟨b, 0, none⟩ = false ∧ w.cell? ⟨b, 1, none⟩ = some v1 ∧ w.frozen? ⟨b, 1, none⟩ = false ∧ w.cell? ⟨b, 2, none⟩ = some v2 ∧ w.frozen? ⟨b, 2, none⟩ = false ∧ w.cell? ⟨b, 3, none⟩ = some v3 ∧ w.frozen? ⟨b, 3, none⟩ = false := ⟨blk_cell h 0 _ rfl, blk_frozen h 0, blk_cell h 1 _ rfl, blk_frozen h 1, blk_cell h 2 _ rfl, blk_frozen h 2, blk_cell h 3 _ rfl, blk_frozen h 3⟩
theorem zfl4 {w : World} {b : Nat} {T : TypeId} {v0 v1 v2 v3 : Value} (h : w.heap[b]? = some (.cells #[v0, v1, v2, v3] T)) : w.cell? ⟨b, 0, none⟩ = some v0 ∧ w.frozen? ⟨b, 0, none⟩ = false ∧ w.cell? ⟨b, 1, none⟩ = some v1 ∧ w.frozen? ⟨b, 1, none⟩ = false ∧ w.cell? ⟨b, 2, none⟩ = some v2 ∧ w.frozen? ⟨b, 2, none⟩ = false ∧ w.cell? ⟨b, 3, none⟩ = some v3 ∧ w.frozen? ⟨b, 3, none⟩ = false ∧ b < w.heap.size := ⟨blk_cell h 0 _ rfl, blk_frozen h 0, blk_cell h 1 _ rfl, blk_frozen h 1, blk_cell h 2 _ rfl, blk_frozen h 2, blk_cell h 3 _ rfl, blk_frozen h 3, blk_lt h⟩
theorem zck5 {w : World} {b : Nat} {T : TypeId} {v0 v1 v2 v3 v4 : Value} (h : w.heap[b]? = some (.cells #[v0, v1, v2, v3, v4] T)) : w.cell? ⟨b, 0, none⟩ = some v0 ∧ w.cell? ⟨b, 1, none⟩ = some v1 ∧ w.cell? ⟨b, 2, none⟩ = some v2 ∧ w.cell? ⟨b, 3, none⟩ = some v3 ∧ w.cell? ⟨b, 4, none⟩ = some v4 := ⟨blk_cell h 0 _ rfl, blk_cell h 1 _ rfl, blk_cell h 2 _ rfl, blk_cell h 3 _ rfl, blk_cell h 4 _ rfl⟩
theorem zcl5 {w : World} {b : Nat} {T : TypeId} {v0 v1 v2 v3 v4 : Value} (h : w.heap[b]? = some (.cells #[v0, v1, v2, v3, v4] T)) : w.cell? ⟨b, 0, none⟩ = some v0 ∧ w.cell? ⟨b, 1, none⟩ = some v1 ∧ w.cell? ⟨b, 2, none⟩ = some v2 ∧ w.cell? ⟨b, 3, none⟩ = some v3 ∧ w.cell? ⟨b, 4, none⟩ = some v4 ∧ b < w.heap.size := ⟨blk_cell h 0 _ rfl, blk_cell h 1 _ rfl, blk_cell h 2 _ rfl, blk_cell h 3 _ rfl, blk_cell h 4 _ rfl, blk_lt h⟩
theorem zfk5 {w : World} {b : Nat} {T : TypeId} {v0 v1 v2 v3 v4 : Value} (h : w.heap[b]? = some (.cells #[v0, v1, v2, v3, v4] T)) : w.cell? ⟨b, 0, none⟩ = some v0 ∧ w.frozen? ⟨b, 0, none⟩ = false ∧ w.cell? ⟨b, 1, none⟩ = some v1 ∧ w.frozen? ⟨b, 1, none⟩ = false ∧ w.cell? ⟨b, 2, none⟩ = some v2 ∧ w.frozen? ⟨b, 2, none⟩ = false ∧ w.cell? ⟨b, 3, none⟩ = some v3 ∧ w.frozen? ⟨b, 3, none⟩ = false ∧ w.cell? ⟨b, 4, none⟩ = some v4 ∧ w.frozen? ⟨b, 4, none⟩ = false := ⟨blk_cell h 0 _ rfl, blk_frozen h 0, blk_cell h 1 _ rfl, blk_frozen h 1, blk_cell h 2 _ rfl, blk_frozen h 2, blk_cell h 3 _ rfl, blk_frozen h 3, blk_cell h 4 _ rfl, blk_frozen h 4⟩
theorem zfl5 {w : World} {b : Nat} {T : TypeId} {v0 v1 v2 v3 v4 : Value} (h : w.heap[b]? = some (.cells #[v0, v1, v2, v3, v4] T)) : w.cell? ⟨b, 0, none⟩ = some v0 ∧ w.frozen? ⟨b, 0, none⟩ = false ∧ w.cell? ⟨b, 1, none⟩ = some v1 ∧ w.frozen? ⟨b, 1, none⟩ = false ∧ w.cell? ⟨b, 2, none⟩ = some v2 ∧ w.frozen? ⟨b, 2, none⟩ = false ∧ w.cell? ⟨b, 3, none⟩ = some v3 ∧ w.frozen? ⟨b, 3, none⟩ = false ∧ w.cell? ⟨b, 4, none⟩ = some v4 ∧ w.frozen? ⟨b, 4, none⟩ = false ∧ b < w.heap.size := ⟨blk_cell h 0 _ rfl, blk_frozen h 0, blk_cell h 1 _ rfl, blk_frozen h 1, blk_cell h 2 _ rfl, blk_frozen h 2, blk_cell h 3 _ rfl, blk_frozen h 3, blk_cell h 4 _ rfl, blk_frozen h 4, blk_lt h⟩
theorem zck6 {w : World} {b : Nat} {T : TypeId} {v0 v1 v2 v3 v4 v5 : Value} (h : w.heap[b]? = some (.cells #[v0, v1, v2, v3, v4, v5] T)) : w.cell? ⟨b, 0, none⟩ = some v0 ∧ w.cell? ⟨b, 1, none⟩ = some v1 ∧ w.cell? ⟨b, 2, none⟩ = some v2 ∧ w.cell? ⟨b, 3, none⟩ = some v3 ∧ w.cell? ⟨b, 4, none⟩ = some v4 ∧ w.cell? ⟨b, 5, none⟩ = some v5 := ⟨blk_cell h 0 _ rfl, blk_cell h 1 _ rfl, blk_cell h 2 _ rfl, blk_cell h 3 _ rfl, blk_cell h 4 _ rfl, blk_cell h 5 _ rfl⟩
theorem zcl6 {w : World} {b : Nat} {T : TypeId} {v0 v1 v2 v3 v4 v5 : Value} (h : w.heap[b]? = some (.cells #[v0, v1, v2, v3, v4, v5] T)) : w.cell? ⟨b, 0, none⟩ = some v0 ∧ w.cell? ⟨b, 1, none⟩ = some v1 ∧ w.cell? ⟨b, 2, none⟩ = some v2 ∧ w.cell? ⟨b, 3, none⟩ = some v3 ∧ w.cell? ⟨b, 4, none⟩ = some v4 ∧ w.cell? ⟨b, 5, none⟩ = some v5 ∧ b < w.heap.size := ⟨blk_cell h 0 _ rfl, blk_cell h 1 _ rfl, blk_cell h 2 _ rfl, blk_cell h 3 _ rfl, blk_cell h 4 _ rfl, blk_cell h 5 _ rfl, blk_lt h⟩
theorem zfk6 {w : World} {b : Nat} {T : TypeId} {v0 v1 v2 v3 v4 v5 : Value} (h : w.heap[b]? = some (.cells #[v0, v1, v2, v3, v4, v5] T)) : w.cell? ⟨b, 0, none⟩ = some v0 ∧ w.frozen? ⟨b, 0, none⟩ = false ∧ w.cell? ⟨b, 1, none⟩ = some v1 ∧ w.frozen? ⟨b, 1, none⟩ = false ∧ w.cell? ⟨b, 2, none⟩ = some v2 ∧ w.frozen? ⟨b, 2, none⟩ = false ∧ w.cell? ⟨b, 3, none⟩ = some v3 ∧ w.frozen? ⟨b, 3, none⟩ = false ∧ w.cell? ⟨b, 4, none⟩ = some v4 ∧ w.frozen? ⟨b, 4, none⟩ = false ∧ w.cell? ⟨b, 5, none⟩ = some v5 ∧ w.frozen? ⟨b, 5, none⟩ = false := ⟨blk_cell h 0 _ rfl, blk_frozen h 0, blk_cell h 1 _ rfl, blk_frozen h 1, blk_cell h 2 _ rfl, blk_frozen h 2, blk_cell h 3 _ rfl, blk_frozen h 3, blk_cell h 4 _ rfl, blk_frozen h 4, blk_cell h 5 _ rfl, blk_frozen h 5⟩
theorem zfl6 {w : World} {b : Nat} {T : TypeId} {v0 v1 v2 v3 v4 v5 : Value} (h : w.heap[b]? = some (.cells #[v0, v1, v2, v3, v4, v5] T)) : w.cell? ⟨b, 0, none⟩ = some v0 ∧ w.frozen? ⟨b, 0, none⟩ = false ∧ w.cell? ⟨b, 1, none⟩ = some v1 ∧ w.frozen? ⟨b, 1, none⟩ = false ∧ w.cell? ⟨b, 2, none⟩ = some v2 ∧ w.frozen? ⟨b, 2, none⟩ = false ∧ w.cell? ⟨b, 3, none⟩ = some v3 ∧ w.frozen? ⟨b, 3, none⟩ = false ∧ w.cell? ⟨b, 4, none⟩ = some v4 ∧ w.frozen? ⟨b, 4, none⟩ = false ∧ w.cell? ⟨b, 5, none⟩ = some v5 ∧ w.frozen? ⟨b, 5, none⟩ = false ∧ b < w.heap.size := ⟨blk_cell h 0 _ rfl, blk_frozen h 0, blk_cell h 1 _ rfl, blk_frozen h 1, blk_cell h 2 _ rfl, blk_frozen h 2, blk_cell h 3 _ rfl, blk_frozen h 3, blk_cell h 4 _ rfl, blk_frozen h 4, blk_cell h 5 _ rfl, blk_frozen h 5, blk_lt h⟩
theorem zck7 {w : World} {b : Nat} {T : TypeId} {v0 v1 v2 v3 v4 v5 v6 : Value} (h : w.heap[b]? = some (.cells #[v0, v1, v2, v3, v4, v5, v6] T)) : w.cell? ⟨b, 0, none⟩ = some v0 ∧ w.cell? ⟨b, 1, none⟩ = some v1 ∧ w.cell? ⟨b, 2, none⟩ = some v2 ∧ w.cell? ⟨b, 3, none⟩ = some v3 ∧ w.cell? ⟨b, 4, none⟩ = some v4 ∧ w.cell? ⟨b, 5, none⟩ = some v5 ∧ w.cell? ⟨b, 6, none⟩ = some v6 := ⟨blk_cell h 0 _ rfl, blk_cell h 1 _ rfl, blk_cell h 2 _ rfl, blk_cell h 3 _ rfl, blk_cell h 4 _ rfl, blk_cell h 5 _ rfl, blk_cell h 6 _ rfl⟩
theorem zcl7 {w : World} {b : Nat} {T : TypeId} {v0 v1 v2 v3 v4 v5 v6 : Value} (h : w.heap[b]? = some (.cells #[v0, v1, v2, v3, v4, v5, v6] T)) : w.cell? ⟨b, 0, none⟩ = some v0 ∧ w.cell? ⟨b, 1, none⟩ = some v1 ∧ w.cell? ⟨b, 2, none⟩ = some v2 ∧ w.cell? ⟨b, 3, none⟩ = some v3 ∧ w.cell? ⟨b, 4, none⟩ = some v4 ∧ w.cell? ⟨b, 5, none⟩ = some v5 ∧ w.cell? ⟨b, 6, none⟩ = some v6 ∧ b < w.heap.size := ⟨blk_cell h 0 _ rfl, blk_cell h 1 _ rfl, blk_cell h 2 _ rfl, blk_cell h 3 _ rfl, blk_cell h 4 _ rfl, blk_cell h 5 _ rfl, blk_cell h 6 _ rfl, blk_lt h⟩
theorem zfk7 {w : World} {b : Nat} {T : TypeId} {v0 v1 v2 v3 v4 v5 v6 : Value} (h : w.heap[b]? = some (.cells #[v0, v1, v2, v3, v4, v5, v6] T)) : w.cell? ⟨b, 0, none⟩ = some v0 ∧ w.frozen? ⟨b, 0, none⟩ = false ∧ w.cell? ⟨b, 1, none⟩ = some v1 ∧ w.frozen? ⟨b, 1, none⟩ = false ∧ w.cell? ⟨b, 2, none⟩ = some v2 ∧ w.frozen? ⟨b, 2, none⟩ = false ∧ w.cell? ⟨b, 3, none⟩ = some v3 ∧ w.frozen? ⟨b, 3, none⟩ = false ∧ w.cell? ⟨b, 4, none⟩ = some v4 ∧ w.frozen? ⟨b, 4, none⟩ = false ∧ w.cell? ⟨b, 5, none⟩ = some v5 ∧ w.frozen? ⟨b, 5, none⟩ = false ∧ w.cell? ⟨b, 6, none⟩ = some v6 ∧ w.frozen? ⟨b, 6, none⟩ = false := ⟨blk_cell h 0 _ rfl, blk_frozen h 0, blk_cell h 1 _ rfl, blk_frozen h 1, blk_cell h 2 _ rfl, blk_frozen h 2, blk_cell h 3 _ rfl, blk_frozen h 3, blk_cell h 4 _ rfl, blk_frozen h 4, blk_cell h 5 _ rfl, blk_frozen h 5, blk_cell h 6 _ rfl, blk_frozen h 6⟩
theorem zfl7 {w : World} {b : Nat} {T : TypeId} {v0 v1 v2 v3 v4 v5 v6 : Value} (h : w.heap[b]? = some (.cells #[v0, v1, v2, v3, v4, v5, v6] T)) : w.cell? ⟨b, 0, none⟩ = some v0 ∧ w.frozen? ⟨b, 0, none⟩ = false ∧ w.cell? ⟨b, 1, none⟩ = some v1 ∧ w.frozen? ⟨b, 1, none⟩ = false ∧ w.cell? ⟨b, 2, none⟩ = some v2 ∧ w.frozen? ⟨b, 2, none⟩ = false ∧ w.cell? ⟨b, 3, none⟩ = some v3 ∧ w.frozen? ⟨b, 3, none⟩ = false ∧ w.cell? ⟨b, 4, none⟩ = some v4 ∧ w.frozen? ⟨b, 4, none⟩ = false ∧ w.cell? ⟨b, 5, none⟩ = some v5 ∧ w.frozen? ⟨b, 5, none⟩ = false ∧ w.cell? ⟨b, 6, none⟩ = some v6 ∧ w.frozen? ⟨b, 6, none⟩ = false ∧ b < w.heap.size := ⟨blk_cell h 0 _ rfl, blk_frozen h 0, blk_cell h 1 _ rfl, blk_frozen h 1, blk_cell h 2 _ rfl, blk_frozen h 2, blk_cell h 3 _ rfl, blk_frozen h 3, blk_cell h 4 _ rfl, blk_frozen h 4, blk_cell h 5 _ rfl, blk_frozen h 5, blk_cell h 6 _ rfl, blk_frozen h 6, blk_lt h⟩
theorem zck8 {w : World} {b : Nat} {T : TypeId} {v0 v1 v2 v3 v4 v5 v6 v7 : Value} (h : w.heap[b]? = some (.cells #[v0, v1, v2, v3, v4, v5, v6, v7] T)) : w.cell? ⟨b, 0, none⟩ = some v0 ∧ w.cell? ⟨b, 1, none⟩ = some v1 ∧ w.cell? ⟨b, 2, none⟩ = some v2 ∧ w.cell? ⟨b, 3, none⟩ = some v3 ∧ w.cell? ⟨b, 4, none⟩ = some v4 ∧ w.cell? ⟨b, 5, none⟩ = some v5 ∧ w.cell? ⟨b, 6, none⟩ = some v6 ∧ w.cell? ⟨b, 7, none⟩ = some v7 := ⟨blk_cell h 0 _ rfl, blk_cell h 1 _ rfl, blk_cell h 2 _ rfl, blk_cell h 3 _ rfl, blk_cell h 4 _ rfl, blk_cell h 5 _ rfl, blk_cell h 6 _ rfl, blk_cell h 7 _ rfl⟩
theorem zcl8 {w : World} {b : Nat} {T : TypeId} {v0 v1 v2 v3 v4 v5 v6 v7 : Value} (h : w.heap[b]? = some (.cells #[v0, v1, v2, v3, v4, v5, v6, v7] T)) : w.cell? ⟨b, 0, none⟩ = some v0 ∧ w.cell? ⟨b, 1, none⟩ = some v1 ∧ w.cell? ⟨b, 2, none⟩ = some v2 ∧ w.cell? ⟨b, 3, none⟩ = some v3 ∧ w.cell? ⟨b, 4, none⟩ = some v4 ∧ w.cell? ⟨b, 5, none⟩ = some v5 ∧ w.cell? ⟨b, 6, none⟩ = some v6 ∧ w.cell? ⟨b, 7, none⟩ = some v7 ∧ b < w.heap.size := ⟨blk_cell h 0 _ rfl, blk_cell h 1 _ rfl, blk_cell h 2 _ rfl, blk_cell h 3 _ rfl, blk_cell h 4 _ rfl, blk_cell h 5 _ rfl, blk_cell h 6 _ rfl, blk_cell h 7 _ rfl, blk_lt h⟩
theorem zfk8 {w : World} {b : Nat} {T : TypeId} {v0 v1 v2 v3 v4 v5 v6 v7 : Value} (h : w.heap[b]? = some (.cells #[v0, v1, v2, v3, v4, v5, v6, v7] T)) : w.cell? ⟨b, 0, none⟩ = some v0 ∧ w.frozen? ⟨b, 0, none⟩ = false ∧ w.cell? ⟨b, 1, none⟩ = some v1 ∧ w.frozen? ⟨b, 1, none⟩ = false ∧ w.cell? ⟨b, 2, none⟩ = some v2 ∧ w.frozen? ⟨b, 2, none⟩ = false ∧ w.cell? ⟨b, 3, none⟩ = some v3 ∧ w.frozen? ⟨b, 3, none⟩ = false ∧ w.cell? ⟨b, 4, none⟩ = some v4 ∧ w.frozen? ⟨b, 4, none⟩ = false ∧ w.cell? ⟨b, 5, none⟩ = some v5 ∧ w.frozen? ⟨b, 5, none⟩ = false ∧ w.cell? ⟨b, 6, none⟩ = some v6 ∧ w.frozen? ⟨b, 6, none⟩ = false ∧ w.cell? ⟨b, 7, none⟩ = some v7 ∧ w.frozen? ⟨b, 7, none⟩ = false := ⟨blk_cell h 0 _ rfl, blk_frozen h 0, blk_cell h 1 _ rfl, blk_frozen h 1, blk_cell h 2 _ rfl, blk_frozen h 2, blk_cell h 3 _ rfl, blk_frozen h 3, blk_cell h 4 _ rfl, blk_frozen h 4, blk_cell h 5 _ rfl, blk_frozen h 5, blk_cell h 6 _ rfl, blk_frozen h 6, blk_cell h 7 _ rfl, blk_frozen h 7⟩
theorem zfl8 {w : World} {b : Nat} {T : TypeId} {v0 v1 v2 v3 v4 v5 v6 v7 : Value} (h : w.heap[b]? = some (.cells #[v0, v1, v2, v3, v4, v5, v6, v7] T)) : w.cell? ⟨b, 0, none⟩ = some v0 ∧ w.frozen? ⟨b, 0, none⟩ = false ∧ w.cell? ⟨b, 1, none⟩ = some v1 ∧ w.frozen? ⟨b, 1, none⟩ = false ∧ w.cell? ⟨b, 2, none⟩ = some v2 ∧ w.frozen? ⟨b, 2, none⟩ = false ∧ w.cell? ⟨b, 3, none⟩ = some v3 ∧ w.frozen? ⟨b, 3, none⟩ = false ∧ w.cell? ⟨b, 4, none⟩ = some v4 ∧ w.frozen? ⟨b, 4, none⟩ = false ∧ w.cell? ⟨b, 5, none⟩ = some v5 ∧ w.frozen? ⟨b, 5, none⟩ = false ∧ w.cell? ⟨b, 6, none⟩ = some v6 ∧ w.frozen? ⟨b, 6, none⟩ = false ∧ w.cell? ⟨b, 7, none⟩ = some v7 ∧ w.frozen? ⟨b, 7, none⟩ = false ∧ b < w.heap.size := ⟨blk_cell h 0 _ rfl, blk_frozen h 0, blk_cell h 1 _ rfl, blk_frozen h 1, blk_cell h 2 _ rfl, blk_frozen h 2, blk_cell h 3 _ rfl, blk_frozen h 3, blk_cell h 4 _ rfl, blk_frozen h 4, blk_cell h 5 _ rfl, blk_frozen h 5, blk_cell h 6 _ rfl, blk_frozen h 6, blk_cell h 7 _ rfl, blk_frozen h 7, blk_lt h⟩
end Go.Proofs.YtbbnkclajpaghaaGreatDoor
namespace Go.Proofs.YtbbnkclajpaghaaGreatDoor
open Go.ChangeShapes Go.WideShapes Go.ChangeAt Go.RowKit
theorem Bgo {w W w1 : World} (h : Below w.heap.size w W) (hb : Below W.heap.size W w1) : Below w.heap.size w w1 := h.trans (hb.mono h.size)
theorem Bal {w W : World} (h : Below w.heap.size w W) (o : Obj) : Below w.heap.size w (W.alloc o) := h.alloc h.size o
theorem ret_int {k : IntKind} {a b : Int} (h : a = b) : Ending.returned (.int k a) = .returned (.int k b) := by rw [h]
theorem ret_bool {a b : Bool} (h : a = b) : Ending.returned (.bool a) = .returned (.bool b) := by rw [h]
theorem size_calls (n : Int) (w : World) (h1 : -9223372036854775808 ≤ n) (h2 : n ≤ 9223372036854775807) :
  Calls Tryz.prog 106 #[.int .i64 n] w fun e w' => e = .returned (.int .u64 (n.natAbs : Int)) ∧ w = w' := by
 by_cases h : n < 0
 ·go_enter Tryz.func106, Tryz.ntmps106
  go_wp2
  go_ret
  refine ⟨ret_int ?_, rfl⟩
  rw [IntKind.wrap_u64, IntKind.wrap_u64]; omega
 ·go_enter Tryz.func106, Tryz.ntmps106
  go_wp2
  go_ret
  refine ⟨ret_int ?_, rfl⟩
  omega
theorem gcd_calls (x y : Nat) (w : World) (hx : x < 18446744073709551616) (hy : y < 18446744073709551616) :
  Calls Tryz.prog 107 #[.int .u64 x, .int .u64 y] w fun e w' => e = .returned (.int .u64 (Nat.gcd x y)) ∧ ∃ n, w' = w.drewN n := by
 generalize hg : Nat.gcd x y = g
 have HG := zh hg
 clear hg
 go_enter Tryz.func107, Tryz.ntmps107
 go_wp2_with fail
 go_loopw [0, 1] (fun a b wr => ∃ u v n : Nat, u < 18446744073709551616 ∧ v < 18446744073709551616 ∧ a = .int .u64 u ∧ b = .int .u64 v ∧ Hid (Nat.gcd u v = g) ∧ wr = w.drewN n) (fun _ b _ => (intOf b).toNat)
 case atStart => exact ⟨x, y, 0, hx, hy, rfl, rfl, HG, rfl⟩
 case round =>
  obtain ⟨u, v, n, hu, hv, rfl, rfl, HE, rfl⟩ := hrel
  by_cases hv0 : v = 0
  ·subst hv0
   go_wp2_with fail
   go_ret
   refine ⟨ret_int ?_, n, rfl⟩
   rw [← HE.out]; simp
  ·have q1 : ((v : Int) != 0) = true := by rw [bne_iff_ne]; omega
   have q2 : (0 : Int) < (v : Int) := by omega
   have q3 : ¬ ((v : Int) = 0) := by omega
   have hlt : u % v < v := Nat.mod_lt _ (by omega)
   have HR : Hid (Nat.gcd v (u % v) = g) := zh (by rw [← HE.out, Nat.gcd_comm u v, Nat.gcd_rec v u, Nat.gcd_comm])
   go_wp2_with fail
   go_quiet (fail)
   go_wp2_with fail
   refine ⟨⟨v, u % v, n + nq, hv, by omega, rfl, by rw [Int.natCast_emod], HR, by rw [World.drewN_drewN]⟩, ?_⟩
   show ((u : Int) % (v : Int)).toNat < ((v : Int)).toNat
   rw [← Int.natCast_emod, Int.toNat_natCast, Int.toNat_natCast]
   exact hlt
end Go.Proofs.YtbbnkclajpaghaaGreatDoor
namespace Go.Proofs.YtbbnkclajpaghaaGreatDoor
open Go.ChangeShapes Go.WideShapes Go.ChangeAt Go.RowKit
attribute [local go_sem ↓] Go.wp_at_zero Go.wp_at_succ
theorem quiet_left {P : Program} {f : FuncId} {args : Array Value} {w : World} {n : Nat} {v : Value}
  (h : Calls P f args (w.drewN n) fun e w' => e = .returned v ∧ w.drewN n = w') : Calls P f args (w.drewN n) fun e w'' => e = .returned v ∧ ∃ m, w'' = w.drewN m :=
 h.mono fun _ _ ⟨he, hm⟩ => ⟨he, n, hm.symm⟩
theorem quiet_more {P : Program} {f : FuncId} {args : Array Value} {w : World} {n : Nat} {v : Value}
  (h : Calls P f args (w.drewN n) fun e w' => e = .returned v ∧ ∃ m, w' = (w.drewN n).drewN m) : Calls P f args (w.drewN n) fun e w'' => e = .returned v ∧ ∃ m, w'' = w.drewN m :=
 h.mono fun _ _ ⟨he, m, hm⟩ => ⟨he, n + m, by rw [hm, World.drewN_drewN]⟩
theorem below_drewN {B : Nat} {a w : World} (h : Below B a w) (n : Nat) : Below B a (w.drewN n) := ⟨h.os, h.tape, h.output, h.size, h.block⟩
abbrev Fv (n d : Int) : Value := .agg #[.int .i64 n, .int .i64 d]
def okF (n d : Int) : Bool := decide (1 ≤ d ∧ d ≤ 1000000000000000000 ∧ -1000000000000000000 ≤ n ∧ n ≤ 1000000000000000000) && (Nat.gcd n.natAbs d.natAbs == 1)
def errF (n d : Int) : Int := if okF n d then 0 else 8
theorem errF_out {n d : Int} (h : ¬ (1 ≤ d ∧ d ≤ 1000000000000000000 ∧ -1000000000000000000 ≤ n ∧ n ≤ 1000000000000000000)) : errF n d = 8 := by
 unfold errF okF; rw [decide_eq_false h]; rfl
theorem errF_in {n d : Int} (h : 1 ≤ d ∧ d ≤ 1000000000000000000 ∧ -1000000000000000000 ≤ n ∧ n ≤ 1000000000000000000) : errF n d = if (Nat.gcd n.natAbs d.natAbs == 1) then 0 else 8 := by
 unfold errF okF; rw [decide_eq_true h]; rfl
theorem check_calls (n d : Int) (w : World) :
  Calls Tryz.prog 79 #[Fv n d] w fun e w' => e = .returned (.int .i64 (errF n d)) ∧ Below w.heap.size w w' := by
 by_cases hin : 1 ≤ d ∧ d ≤ 1000000000000000000 ∧ -1000000000000000000 ≤ n ∧ n ≤ 1000000000000000000
 ·have F := zh (errF_in hin)
  generalize errF n d = v at *
  obtain ⟨h1, h2, h3, h4⟩ := hin
  obtain ⟨g, hg⟩ : ∃ g : Nat, Nat.gcd n.natAbs d.natAbs = g := ⟨_, rfl⟩
  have GC : Hid (∀ W : World, Calls Tryz.prog 107 #[.int .u64 (n.natAbs : Int), .int .u64 (d.natAbs : Int)] W fun e w' => e = .returned (.int .u64 (g : Int)) ∧ ∃ m, w' = W.drewN m) := zh (fun W => by
   have := gcd_calls n.natAbs d.natAbs W (by omega) (by omega)
   rw [hg] at this; exact this)
  rw [hg] at F
  clear hg
  by_cases hg1 : g = 1
  ·have F2 : Hid (v = 0) := zh (by rw [F.out, hg1]; rfl)
   have q : ((g : Int) != 1) = false := by rw [hg1]; rfl
   clear hg1 F
   go_enter Tryz.func79, Tryz.ntmps79
   go_wp2_with fail
   go_quiet ((first | (go_at_call 106; exact quiet_left (size_calls _ _ (by omega) (by omega))) | (go_at_call 107; exact quiet_more (GC.out _))))
   go_wp2_with fail
   go_ret
   exact ⟨ret_int F2.out.symm, below_drewN (Bal (Below.refl _ _) _) _⟩
  ·have F2 : Hid (v = 8) := zh (by rw [F.out, if_neg (by simpa using hg1)])
   have q : ((g : Int) != 1) = true := by rw [bne_iff_ne]; omega
   clear hg1 F
   go_enter Tryz.func79, Tryz.ntmps79
   go_wp2_with fail
   go_quiet ((first | (go_at_call 106; exact quiet_left (size_calls _ _ (by omega) (by omega))) | (go_at_call 107; exact quiet_more (GC.out _))))
   go_wp2_with fail
   go_ret
   exact ⟨ret_int F2.out.symm, below_drewN (Bal (Below.refl _ _) _) _⟩
 ·have F := zh (errF_out hin)
  generalize errF n d = v at *
  have hc : d < 1 ∨ (1 ≤ d ∧ 1000000000000000000 < d) ∨ (1 ≤ d ∧ d ≤ 1000000000000000000 ∧ n < -1000000000000000000) ∨ (1 ≤ d ∧ d ≤ 1000000000000000000 ∧ -1000000000000000000 ≤ n ∧ 1000000000000000000 < n) := by omega
  clear hin
  rcases hc with h | ⟨h, h'⟩ | ⟨h, h', h''⟩ | ⟨h, h', h'', h3⟩
  all_goals
   go_enter Tryz.func79, Tryz.ntmps79
   go_wp2_with fail
   go_ret
   exact ⟨ret_int F.out.symm, Bal (Below.refl _ _) _⟩
end Go.Proofs.YtbbnkclajpaghaaGreatDoor
namespace Go.Proofs.YtbbnkclajpaghaaGreatDoor
open Go.ChangeShapes Go.WideShapes Go.ChangeAt Go.RowKit
attribute [local go_sem ↓] Go.wp_at_zero Go.wp_at_succ
def errB (an ad bn bd : Int) : Int := if errF an ad ≠ 0 then errF an ad else errF bn bd
theorem blk1 (w : World) (x y : Obj) : ((w.alloc x).alloc y).heap[w.heap.size]? = some x := blk_alloc (blk_new w x) y
theorem blk2 (w : World) (x y : Obj) : ((w.alloc x).alloc y).heap[w.heap.size + 1]? = some y := blk_at y (by simp)
theorem both_calls (an ad bn bd : Int) (w : World) :
  Calls Tryz.prog 145 #[Fv an ad, Fv bn bd] w fun e w' => e = .returned (.int .i64 (errB an ad bn bd)) ∧ Below w.heap.size w w' := by
 have F : Hid (errB an ad bn bd = if errF an ad ≠ 0 then errF an ad else errF bn bd) := zh rfl
 have C1 := zh (check_calls an ad)
 have C2 := zh (check_calls bn bd)
 generalize errB an ad bn bd = v at *
 generalize errF an ad = e1 at *
 generalize errF bn bd = e2 at *
 by_cases h : e1 = 0
 ·subst h
  go_enter Tryz.func145, Tryz.ntmps145
  go_wp2_with fail
  refine (C1.out _).mono ?_
  rintro e w1 ⟨rfl, hb⟩
  have X := zh (blk_next hb (blk2 w _ _))
  have x0 : w1.cell? ⟨w.heap.size + 1, 0, none⟩ = some (.int .i64 bn) := blk_cell X.out 0 _ rfl
  have x1 : w1.cell? ⟨w.heap.size + 1, 1, none⟩ = some (.int .i64 bd) := blk_cell X.out 1 _ rfl
  have N1 : Hid (Below w.heap.size w w1) := zh (Bgo (Bal (Bal (Below.refl _ _) _) _) hb)
  clear hb
  go_wp2_with fail
  refine (C2.out _).mono ?_
  rintro e w2 ⟨rfl, hb⟩
  have N2 : Hid (Below w.heap.size w w2) := zh (Bgo N1.out hb)
  clear hb
  go_wp2_with fail
  go_ret
  exact ⟨ret_int (by rw [F.out]; simp), N2.out⟩
 ·have hne : (e1 != 0) = true := by simpa using h
  go_enter Tryz.func145, Tryz.ntmps145
  go_wp2_with fail
  refine (C1.out _).mono ?_
  rintro e w1 ⟨rfl, hb⟩
  have N1 : Hid (Below w.heap.size w w1) := zh (Bgo (Bal (Bal (Below.refl _ _) _) _) hb)
  clear hb
  go_wp2_with fail
  go_ret
  exact ⟨ret_int (by rw [F.out, if_pos h]), N1.out⟩
end Go.Proofs.YtbbnkclajpaghaaGreatDoor
namespace Go.Proofs.YtbbnkclajpaghaaGreatDoor
open Go.ChangeShapes Go.WideShapes Go.ChangeAt Go.RowKit
attribute [local go_sem ↓] Go.wp_at_zero Go.wp_at_succ
abbrev Rv (r : Int × Int × Int) : Value := .tuple #[Fv r.1 r.2.1, .int .i64 r.2.2]
def lowF (neg : Bool) (n d : Nat) : Int × Int × Int := if 1000000000000000000 < n ∨ 1000000000000000000 < d then (0, 0, 16) else (if neg then -(n : Int) else (n : Int), (d : Int), 0)
theorem build_calls (neg : Bool) (n d : Nat) (w : World) (hn : n < 18446744073709551616) (hd : d < 18446744073709551616) :
  Calls Tryz.prog 108 #[.bool neg, .int .u64 n, .int .u64 d] w fun e w' => e = .returned (Rv (lowF neg n d)) ∧ Below w.heap.size w w' := by
 have hv : (1000000000000000000 < n ∨ 1000000000000000000 < d) ∨ (n ≤ 1000000000000000000 ∧ d ≤ 1000000000000000000) := by omega
 rcases hv with h | ⟨h, h'⟩
 ·have F : Hid (lowF neg n d = (0, 0, 16)) := zh (by unfold lowF; rw [if_pos h])
  generalize lowF neg n d = v at *
  rcases h with h | h
  ·go_enter Tryz.func108, Tryz.ntmps108
   go_wp2_with fail
   refine bodyPost_ret (v := .tuple #[Fv 0 0, .int .i64 16]) (by simp [results, Tryz.results108, go_sem]) rfl ⟨by rw [F.out], ?_⟩
   repeat (first | exact Below.refl _ _ | refine Bal ?_ _ | refine Bset1 ?_ (by simp) _ _)
  ·have h9 : n ≤ 1000000000000000000 ∨ 1000000000000000000 < n := by omega
   rcases h9 with h9 | h9
   all_goals
    go_enter Tryz.func108, Tryz.ntmps108
    go_wp2_with fail
    refine bodyPost_ret (v := .tuple #[Fv 0 0, .int .i64 16]) (by simp [results, Tryz.results108, go_sem]) rfl ⟨by rw [F.out], ?_⟩
    repeat (first | exact Below.refl _ _ | refine Bal ?_ _ | refine Bset1 ?_ (by simp) _ _)
 ·have F : Hid (lowF neg n d = (if neg then -(n : Int) else (n : Int), (d : Int), 0)) := zh (by unfold lowF; rw [if_neg (by omega)])
  generalize lowF neg n d = v at *
  cases neg
  ·go_enter Tryz.func108, Tryz.ntmps108
   go_wp2_with fail
   refine bodyPost_ret (v := .tuple #[Fv n d, .int .i64 0]) (by simp [results, Tryz.results108, go_sem]) rfl ⟨by rw [F.out]; rfl, ?_⟩
   repeat (first | exact Below.refl _ _ | refine Bal ?_ _ | refine Bset1 ?_ (by simp) _ _)
  ·go_enter Tryz.func108, Tryz.ntmps108
   go_wp2_with fail
   refine bodyPost_ret (v := .tuple #[Fv (-(n : Int)) d, .int .i64 0]) (by simp [results, Tryz.results108, go_sem]) rfl ⟨by rw [F.out]; rfl, ?_⟩
   repeat (first | exact Below.refl _ _ | refine Bal ?_ _ | refine Bset1 ?_ (by simp) _ _)
theorem and32 (n : Nat) (hn : n < 18446744073709551616) : bits .and .u64 (n : Int) 4294967295 = ((n % 4294967296 : Nat) : Int) := by
 have := u64_and_nat n 4294967295 hn (by omega)
 rw [show ((4294967295 : Nat) : Int) = 4294967295 from rfl] at this
 rw [this]
 congr 1
 exact Nat.and_two_pow_sub_one_eq_mod n 32
end Go.Proofs.YtbbnkclajpaghaaGreatDoor
namespace Go.Proofs.YtbbnkclajpaghaaGreatDoor
open Go.ChangeShapes Go.WideShapes Go.ChangeAt Go.RowKit
attribute [local go_sem ↓] Go.wp_at_zero Go.wp_at_succ
abbrev Bv (a b c d : Nat) : Value := .agg #[.int .u64 a, .int .u64 b, .int .u64 c, .int .u64 d]
theorem blk3c (w : World) (x y z : Obj) : (((w.alloc x).alloc y).alloc z).heap[w.heap.size + 1 + 1]? = some z := blk_at z (by simp)
theorem blk3b (w : World) (x y z : Obj) : (((w.alloc x).alloc y).alloc z).heap[w.heap.size + 1]? = some y := blk_alloc (blk_at y (by simp)) z
end Go.Proofs.YtbbnkclajpaghaaGreatDoor
namespace Go.Proofs.YtbbnkclajpaghaaGreatDoor
open Go.ChangeShapes Go.WideShapes Go.ChangeAt Go.RowKit
attribute [local go_sem ↓] Go.wp_at_zero Go.wp_at_succ
theorem wrapN (q : Nat) (h : q < 18446744073709551616) : IntKind.u64.wrap (q : Int) = (q : Int) := by rw [IntKind.wrap_u64]; omega
def makeF (num den : Int) : Int × Int × Int := if den = 0 then (0, 0, 18) else lowF (decide (num < 0) != decide (den < 0)) (num.natAbs / Nat.gcd num.natAbs den.natAbs) (den.natAbs / Nat.gcd num.natAbs den.natAbs)
theorem make_calls (num den : Int) (w : World) (h1 : -9223372036854775808 ≤ num) (h2 : num ≤ 9223372036854775807) (h3 : -9223372036854775808 ≤ den) (h4 : den ≤ 9223372036854775807) :
  Calls Tryz.prog 78 #[.int .i64 num, .int .i64 den] w fun e w' => e = .returned (Rv (makeF num den)) ∧ Below w.heap.size w w' := by
 by_cases hd : den = 0
 ·have F : Hid (makeF num den = (0, 0, 18)) := zh (by unfold makeF; rw [if_pos hd])
  generalize makeF num den = v at *
  subst hd
  go_enter Tryz.func78, Tryz.ntmps78
  go_wp2_with fail
  refine bodyPost_ret (v := .tuple #[Fv 0 0, .int .i64 18]) (by simp [results, Tryz.results78, go_sem]) rfl ⟨by rw [F.out], ?_⟩
  repeat (first | exact Below.refl _ _ | refine Bal ?_ _ | refine Bset1 ?_ (by simp) _ _)
 ·have F : Hid (makeF num den = lowF (decide (num < 0) != decide (den < 0)) (num.natAbs / Nat.gcd num.natAbs den.natAbs) (den.natAbs / Nat.gcd num.natAbs den.natAbs)) := zh (by unfold makeF; rw [if_neg hd])
  have hne : (den == 0) = false := by simpa using hd
  generalize makeF num den = v at *
  have hg0 : 0 < Nat.gcd num.natAbs den.natAbs := Nat.gcd_pos_of_pos_right _ (by omega)
  have S1 := zh (fun W => size_calls num W h1 h2)
  have S2 := zh (fun W => size_calls den W h3 h4)
  have hx : num.natAbs ≤ 9223372036854775808 := by omega
  have hy : den.natAbs ≤ 9223372036854775808 := by omega
  generalize num.natAbs = x at *
  generalize den.natAbs = y at *
  have GC := zh (fun W => gcd_calls x y W (by omega) (by omega))
  generalize Nat.gcd x y = g at *
  have tx : (x : Int).tdiv (g : Int) = ((x / g : Nat) : Int) := by rw [Int.tdiv_eq_ediv_of_nonneg (by omega), Int.natCast_ediv]
  have ty : (y : Int).tdiv (g : Int) = ((y / g : Nat) : Int) := by rw [Int.tdiv_eq_ediv_of_nonneg (by omega), Int.natCast_ediv]
  have hx1 : x / g ≤ 9223372036854775808 := Nat.le_trans (Nat.div_le_self _ _) hx
  have hy1 : y / g ≤ 9223372036854775808 := Nat.le_trans (Nat.div_le_self _ _) hy
  generalize x / g = x1 at *
  generalize y / g = y1 at *
  have BC : Hid (∀ W, Calls Tryz.prog 108 #[.bool (!(decide (num < 0) == decide (den < 0))), .int .u64 x1, .int .u64 y1] W fun e w' => e = .returned (Rv (lowF (decide (num < 0) != decide (den < 0)) x1 y1)) ∧ Below W.heap.size W w') := zh (fun W => build_calls (decide (num < 0) != decide (den < 0)) x1 y1 W (by omega) (by omega))
  go_enter Tryz.func78, Tryz.ntmps78
  go_wp2_with fail
  refine (S1.out _).mono ?_
  rintro e w1 ⟨rfl, rfl⟩
  go_wp2_with fail
  refine (S2.out _).mono ?_
  rintro e w2 ⟨rfl, rfl⟩
  go_wp2_with fail
  refine (GC.out _).mono ?_
  rintro e w3 ⟨rfl, n3, rfl⟩
  go_wp2_with fail
  have Z0 : Hid (((w.alloc (.cells #[.int .i64 0, .int .i64 0] 83)).drewN n3).heap[w.heap.size]? = some (.cells #[.int .i64 0, .int .i64 0] 83)) := zh (blk_new w _)
  have N0 : Hid (Below w.heap.size w ((w.alloc (.cells #[.int .i64 0, .int .i64 0] 83)).drewN n3)) := zh (below_drewN (Bal (Below.refl _ _) _) _)
  generalize (w.alloc (.cells #[.int .i64 0, .int .i64 0] 83)).drewN n3 = W at *
  have gp2 : ¬ ((g : Int) = 0) := by omega
  have gp3 : ((g : Int) == 0) = false := by simpa using gp2
  have wx : IntKind.u64.wrap (x1 : Int) = (x1 : Int) := wrapN _ (by omega)
  have wy : IntKind.u64.wrap (y1 : Int) = (y1 : Int) := wrapN _ (by omega)
  generalize lowF (decide (num < 0) != decide (den < 0)) x1 y1 = r at *
  obtain ⟨r1, r2, r3⟩ := r
  have gp4 : ¬ g = 0 := by omega
  go_region_held3 (fun W => True) (trivial) ((go_at_call 108; (with_reducible refine (BC.out _).mono ?_); rintro e w4 ⟨rfl, hb⟩; have Z1 : Hid (w4.heap[w.heap.size]? = some (.cells #[.int .i64 0, .int .i64 0] 83)) := zh (by first | exact blk_next hb Z0.out | exact blk_next (W := W.drew) hb Z0.out); have N1 : Hid (Below w.heap.size w w4) := zh (by first | exact Bgo N0.out hb | exact Bgo N0.out.drew hb); have z0 : w4.cell? ⟨w.heap.size, 0, none⟩ = some (.int .i64 0) := blk_cell Z1.out 0 _ rfl; have z1 : w4.cell? ⟨w.heap.size, 1, none⟩ = some (.int .i64 0) := blk_cell Z1.out 1 _ rfl; have f0 : w4.frozen? ⟨w.heap.size, 0, none⟩ = false := blk_frozen Z1.out 0; have f1 : w4.frozen? ⟨w.heap.size, 1, none⟩ = false := blk_frozen Z1.out 1; clear hb))
  go_wp2_with fail
  have e1 : ((w4.setCell ⟨w.heap.size, 0, none⟩ (.int .i64 r1)).setCell ⟨w.heap.size, 1, none⟩ (.int .i64 r2)).cell? ⟨w.heap.size, 0, none⟩ = some (.int .i64 r1) := blk_cell (blk_set (blk_set Z1.out 0 _) 1 _) 0 _ rfl
  have e2 : ((w4.setCell ⟨w.heap.size, 0, none⟩ (.int .i64 r1)).setCell ⟨w.heap.size, 1, none⟩ (.int .i64 r2)).cell? ⟨w.heap.size, 1, none⟩ = some (.int .i64 r2) := blk_cell (blk_set (blk_set Z1.out 0 _) 1 _) 1 _ rfl
  refine bodyPost_ret (v := .tuple #[Fv r1 r2, .int .i64 r3]) (by simp [results, Tryz.results78, go_sem, e1, e2]) rfl ⟨by rw [F.out], Bset1 (Bset1 N1.out (by omega) _ _) (by omega) _ _⟩
end Go.Proofs.YtbbnkclajpaghaaGreatDoor
namespace Go.Proofs.YtbbnkclajpaghaaGreatDoor
open Go.ChangeShapes Go.WideShapes Go.ChangeAt Go.RowKit
attribute [local go_sem ↓] Go.wp_at_zero Go.wp_at_succ
theorem prod_lt {a b m : Nat} (ha : a ≤ m) (hb : b ≤ m) : a * b ≤ m * m := Nat.mul_le_mul ha hb
theorem mul64_plain {x y x0 x1 y0 y1 a b c d : Nat} (hx : x = 4294967296 * x1 + x0) (hy : y = 4294967296 * y1 + y0) (ha : x0 * y0 = a) (hb : x1 * y0 = b) (hc : x0 * y1 = c) (hd : x1 * y1 = d) : x * y = 18446744073709551616 * d + 4294967296 * (b + c) + a := by
 subst hx hy ha hb hc hd
 grind
theorem mul64_calls (x y : Nat) (w : World) (hx : x < 18446744073709551616) (hy : y < 18446744073709551616) :
  Calls Tryz.prog 157 #[.int .u64 x, .int .u64 y] w fun e w' => e = .returned (.tuple #[.int .u64 (x * y / 18446744073709551616 : Nat), .int .u64 (x * y % 18446744073709551616 : Nat)]) ∧ w = w' := by
 have b0 : x % 4294967296 ≤ 4294967295 := by omega
 have b1 : x / 4294967296 ≤ 4294967295 := by omega
 have b2 : y % 4294967296 ≤ 4294967295 := by omega
 have b3 : y / 4294967296 ≤ 4294967295 := by omega
 have EX : x = 4294967296 * (x / 4294967296) + x % 4294967296 := by omega
 have EY : y = 4294967296 * (y / 4294967296) + y % 4294967296 := by omega
 have r1 := and32 x hx
 have r2 : (x : Int) / 4294967296 = ((x / 4294967296 : Nat) : Int) := (Int.natCast_ediv x 4294967296).symm
 have r3 := and32 y hy
 have r4 : (y : Int) / 4294967296 = ((y / 4294967296 : Nat) : Int) := (Int.natCast_ediv y 4294967296).symm
 generalize x % 4294967296 = x0 at *
 generalize x / 4294967296 = x1 at *
 generalize y % 4294967296 = y0 at *
 generalize y / 4294967296 = y1 at *
 have p1 := prod_lt b0 b2
 have p2 := prod_lt b1 b2
 have p3 := prod_lt b0 b3
 have p4 := prod_lt b1 b3
 have PL := mul64_plain EX EY rfl rfl rfl rfl
 have m1 : (x0 : Int) * (y0 : Int) = ((x0 * y0 : Nat) : Int) := (Int.natCast_mul x0 y0).symm
 have m2 : (x1 : Int) * (y0 : Int) = ((x1 * y0 : Nat) : Int) := (Int.natCast_mul x1 y0).symm
 have m3 : (x0 : Int) * (y1 : Int) = ((x0 * y1 : Nat) : Int) := (Int.natCast_mul x0 y1).symm
 have m4 : (x1 : Int) * (y1 : Int) = ((x1 * y1 : Nat) : Int) := (Int.natCast_mul x1 y1).symm
 have m5 : IntKind.u64.wrap ((x : Int) * (y : Int)) = ((x * y % 18446744073709551616 : Nat) : Int) := by
  rw [IntKind.wrap_u64, ← Int.natCast_mul]; omega
 clear EX EY
 generalize x0 * y0 = a at *
 generalize x1 * y0 = b at *
 generalize x0 * y1 = c at *
 generalize x1 * y1 = d at *
 obtain ⟨hi, ehi⟩ : ∃ hi, x * y / 18446744073709551616 = hi := ⟨_, rfl⟩
 have EH : Hid (hi = d + (b + a / 4294967296) / 4294967296 + ((b + a / 4294967296) % 4294967296 + c) / 4294967296) := zh (by
  generalize x * y = xy at *; omega)
 have bh : hi ≤ 18446744073709551615 := by
  generalize hxy : x * y = xy at *
  have : xy ≤ 18446744073709551615 * 18446744073709551615 := by rw [← hxy]; exact prod_lt (by omega) (by omega)
  omega
 rw [ehi]
 clear ehi PL
 generalize x * y % 18446744073709551616 = lo at *
 have n1 : (a : Int) / 4294967296 = ((a / 4294967296 : Nat) : Int) := (Int.natCast_ediv a 4294967296).symm
 have l1 : a / 4294967296 ≤ 4294967295 := by omega
 generalize a / 4294967296 = q at *
 have n2 : (b : Int) + (q : Int) = ((b + q : Nat) : Int) := by omega
 have l2 : b + q < 18446744073709551616 := by omega
 have n3 := and32 (b + q) l2
 have n4 : ((b + q : Nat) : Int) / 4294967296 = (((b + q) / 4294967296 : Nat) : Int) := (Int.natCast_ediv (b + q) 4294967296).symm
 have l3 : (b + q) % 4294967296 ≤ 4294967295 := by omega
 have l4 : (b + q) / 4294967296 ≤ 4294967295 := by omega
 generalize (b + q) % 4294967296 = s at *
 generalize (b + q) / 4294967296 = t at *
 generalize b + q = u at *
 have n5 : (s : Int) + (c : Int) = ((s + c : Nat) : Int) := by omega
 have n6 : ((s + c : Nat) : Int) / 4294967296 = (((s + c) / 4294967296 : Nat) : Int) := (Int.natCast_ediv (s + c) 4294967296).symm
 have l5 : s + c < 18446744073709551616 := by omega
 have l6 : (s + c) / 4294967296 ≤ 4294967295 := by omega
 generalize (s + c) / 4294967296 = v at *
 generalize s + c = z at *
 have n7 : (d : Int) + (t : Int) = ((d + t : Nat) : Int) := by omega
 have l7 : d + t < 18446744073709551616 := by omega
 generalize hdt : d + t = dt at *
 have n8 : (dt : Int) + (v : Int) = (hi : Int) := by have := EH.out; omega
 clear EH
 go_enter Tryz.func157, Tryz.ntmps157
 go_wp2_with fail
 go_ret2
 exact ⟨rfl, rfl⟩
end Go.Proofs.YtbbnkclajpaghaaGreatDoor
namespace Go.Proofs.YtbbnkclajpaghaaGreatDoor
open Go.ChangeShapes Go.WideShapes Go.ChangeAt Go.RowKit
attribute [local go_sem ↓] Go.wp_at_zero Go.wp_at_succ
def mulF (an ad bn bd : Int) : Int × Int × Int :=
 lowF (decide (an < 0) != decide (bn < 0)) ((an.natAbs / Nat.gcd an.natAbs bd.natAbs) * (bn.natAbs / Nat.gcd bn.natAbs ad.natAbs)) ((ad.natAbs / Nat.gcd bn.natAbs ad.natAbs) * (bd.natAbs / Nat.gcd an.natAbs bd.natAbs))
theorem lowF_great {neg : Bool} {n d : Nat} (h : 1000000000000000000 < n ∨ 1000000000000000000 < d) : lowF neg n d = (0, 0, 16) := by unfold lowF; rw [if_pos h]
theorem tdivN (x g : Nat) : (x : Int).tdiv (g : Int) = ((x / g : Nat) : Int) := by rw [Int.tdiv_eq_ediv_of_nonneg (by omega), Int.natCast_ediv]
structure PK (w W : World) (an ad bn bd : Int) : Prop where
 a : W.heap[w.heap.size]? = some (.cells #[.int .i64 an, .int .i64 ad] 83)
 b : W.heap[w.heap.size + 1]? = some (.cells #[.int .i64 bn, .int .i64 bd] 83)
 z : W.heap[w.heap.size + 1 + 1]? = some (.cells #[.int .i64 0, .int .i64 0] 83)
 n : Below w.heap.size w W
theorem PK.next {w W W' : World} {an ad bn bd : Int} (h : PK w W an ad bn bd) (hb : Below W.heap.size W W') : PK w W' an ad bn bd := ⟨blk_next hb h.a, blk_next hb h.b, blk_next hb h.z, Bgo h.n hb⟩
theorem PK.drewN {w W : World} {an ad bn bd : Int} (h : PK w W an ad bn bd) (n : Nat) : PK w (W.drewN n) an ad bn bd := h.next (below_drewN (Below.refl _ _) n)
theorem PK.init (w : World) (an ad bn bd : Int) : PK w (((w.alloc (.cells #[.int .i64 an, .int .i64 ad] 83)).alloc (.cells #[.int .i64 bn, .int .i64 bd] 83)).alloc (.cells #[.int .i64 0, .int .i64 0] 83)) an ad bn bd :=
 ⟨blk_alloc (blk_alloc (blk_new w _) _) _, blk3b w _ _ _, blk3c w _ _ _, Bal (Bal (Bal (Below.refl _ _) _) _) _⟩
theorem product_calls (an ad bn bd : Int) (w : World) (h1 : -9223372036854775808 ≤ an) (h2 : an ≤ 9223372036854775807) (h3 : 1 ≤ ad) (h4 : ad ≤ 9223372036854775807) (h5 : -9223372036854775808 ≤ bn) (h6 : bn ≤ 9223372036854775807) (h7 : 1 ≤ bd) (h8 : bd ≤ 9223372036854775807) :
  Calls Tryz.prog 146 #[Fv an ad, Fv bn bd] w fun e w' => e = .returned (Rv (mulF an ad bn bd)) ∧ Below w.heap.size w w' := by
 have F : Hid (mulF an ad bn bd = lowF (decide (an < 0) != decide (bn < 0)) ((an.natAbs / Nat.gcd an.natAbs bd.natAbs) * (bn.natAbs / Nat.gcd bn.natAbs ad.natAbs)) ((ad.natAbs / Nat.gcd bn.natAbs ad.natAbs) * (bd.natAbs / Nat.gcd an.natAbs bd.natAbs))) := zh rfl
 generalize mulF an ad bn bd = res at *
 have S1 := zh (fun W => size_calls an W h1 h2)
 have S2 := zh (fun W => size_calls ad W (by omega) h4)
 have S3 := zh (fun W => size_calls bn W h5 h6)
 have S4 := zh (fun W => size_calls bd W (by omega) h8)
 have hx : an.natAbs ≤ 9223372036854775808 := by omega
 have hy : ad.natAbs ≤ 9223372036854775808 := by omega
 have hu : bn.natAbs ≤ 9223372036854775808 := by omega
 have hv : bd.natAbs ≤ 9223372036854775808 := by omega
 have hg0 : 0 < Nat.gcd an.natAbs bd.natAbs := Nat.gcd_pos_of_pos_right _ (by omega)
 have hh0 : 0 < Nat.gcd bn.natAbs ad.natAbs := Nat.gcd_pos_of_pos_right _ (by omega)
 generalize an.natAbs = x at *
 generalize ad.natAbs = y at *
 generalize bn.natAbs = u at *
 generalize bd.natAbs = v at *
 have G1 := zh (fun W => gcd_calls x v W (by omega) (by omega))
 have G2 := zh (fun W => gcd_calls u y W (by omega) (by omega))
 generalize Nat.gcd x v = g at *
 generalize Nat.gcd u y = h at *
 have t1 := tdivN x g
 have t2 := tdivN u h
 have t3 := tdivN y h
 have t4 := tdivN v g
 have l1 : x / g ≤ 9223372036854775808 := Nat.le_trans (Nat.div_le_self _ _) hx
 have l2 : u / h ≤ 9223372036854775808 := Nat.le_trans (Nat.div_le_self _ _) hu
 have l3 : y / h ≤ 9223372036854775808 := Nat.le_trans (Nat.div_le_self _ _) hy
 have l4 : v / g ≤ 9223372036854775808 := Nat.le_trans (Nat.div_le_self _ _) hv
 generalize x / g = x1 at *
 generalize u / h = u1 at *
 generalize y / h = y1 at *
 generalize v / g = v1 at *
 have M1 := zh (fun W => mul64_calls x1 u1 W (by omega) (by omega))
 have M2 := zh (fun W => mul64_calls y1 v1 W (by omega) (by omega))
 generalize x1 * u1 = P at *
 generalize y1 * v1 = Q at *
 have hp : P % 18446744073709551616 < 18446744073709551616 := Nat.mod_lt _ (by omega)
 have hq : Q % 18446744073709551616 < 18446744073709551616 := Nat.mod_lt _ (by omega)
 have BC : Hid (∀ W, Calls Tryz.prog 108 #[.bool (!(decide (an < 0) == decide (bn < 0))), .int .u64 (P % 18446744073709551616 : Nat), .int .u64 (Q % 18446744073709551616 : Nat)] W fun e w' => e = .returned (Rv (lowF (decide (an < 0) != decide (bn < 0)) (P % 18446744073709551616) (Q % 18446744073709551616))) ∧ Below W.heap.size W w') := zh (fun W => build_calls (decide (an < 0) != decide (bn < 0)) _ _ W hp hq)
 have BIG : Hid (¬ P / 18446744073709551616 = 0 ∨ ¬ Q / 18446744073709551616 = 0 → res = (0, 0, 16)) := zh (fun hh => by rw [F.out]; exact lowF_great (by omega))
 have SML : Hid (P / 18446744073709551616 = 0 → Q / 18446744073709551616 = 0 → res = lowF (decide (an < 0) != decide (bn < 0)) (P % 18446744073709551616) (Q % 18446744073709551616)) := zh (fun e1 e2 => by rw [F.out]; congr 1 <;> omega)
 clear F
 generalize P % 18446744073709551616 = p0 at *
 generalize Q % 18446744073709551616 = q0 at *
 generalize P / 18446744073709551616 = p1 at *
 generalize Q / 18446744073709551616 = q1 at *
 have gp4 : ¬ g = 0 := by omega
 have hp4 : ¬ h = 0 := by omega
 have wx : IntKind.u64.wrap (x1 : Int) = (x1 : Int) := wrapN _ (by omega)
 have wu : IntKind.u64.wrap (u1 : Int) = (u1 : Int) := wrapN _ (by omega)
 have wy : IntKind.u64.wrap (y1 : Int) = (y1 : Int) := wrapN _ (by omega)
 have wv : IntKind.u64.wrap (v1 : Int) = (v1 : Int) := wrapN _ (by omega)
 go_enter Tryz.func146, Tryz.ntmps146
 go_wp2_with fail
 go_quiet ((first | (go_at_call 106; (with_reducible exact quiet_left (S1.out _))) | (go_at_call 106; (with_reducible exact quiet_left (S2.out _))) | (go_at_call 106; (with_reducible exact quiet_left (S3.out _))) | (go_at_call 106; (with_reducible exact quiet_left (S4.out _)))))
 have K := zh ((PK.init w an ad bn bd).drewN nq)
 generalize (((w.alloc (.cells #[.int .i64 an, .int .i64 ad] 83)).alloc (.cells #[.int .i64 bn, .int .i64 bd] 83)).alloc (.cells #[.int .i64 0, .int .i64 0] 83)).drewN nq = W0 at *
 go_wp2_with fail
 refine (G1.out _).mono ?_
 rintro e w1 ⟨rfl, n1, rfl⟩
 replace K := zh (K.out.drewN n1)
 generalize W0.drewN n1 = W1 at *
 go_wp2_with fail
 refine (G2.out _).mono ?_
 rintro e w2 ⟨rfl, n2, rfl⟩
 replace K := zh (K.out.drewN n2)
 generalize W1.drewN n2 = W2 at *
 go_wp2_with fail
 go_quiet ((go_at_call 157; (with_reducible exact quiet_left (M1.out _))))
 replace K := zh (K.out.drewN nq)
 generalize W2.drewN nq = W3 at *
 go_wp2_with fail
 go_quiet ((go_at_call 157; (with_reducible exact quiet_left (M2.out _))))
 replace K := zh (K.out.drewN nq)
 generalize W3.drewN nq = W4 at *
 clear t1 t2 t3 t4 wx wu wy wv
 have a0 := blk_cell K.out.a 0 _ rfl
 have b0 := blk_cell K.out.b 0 _ rfl
 have z0 := blk_cell K.out.z 0 _ rfl
 have z1 := blk_cell K.out.z 1 _ rfl
 have f0 := blk_frozen K.out.z 0
 have f1 := blk_frozen K.out.z 1
 by_cases c1 : p1 = 0
 ·have c1' : ((p1 : Int) != 0) = false := by rw [c1]; rfl
  by_cases c2 : q1 = 0
  ·have c2' : ((q1 : Int) != 0) = false := by rw [c2]; rfl
   have F2 := zh (SML.out c1 c2)
   clear SML BIG c1 c2
   generalize lowF (decide (an < 0) != decide (bn < 0)) p0 q0 = r at *
   obtain ⟨r1, r2, r3⟩ := r
   go_wp2_with fail
   refine (BC.out _).mono ?_
   rintro e w4 ⟨rfl, hb⟩
   replace K := zh (K.out.next hb)
   clear hb a0 b0 z0 z1 f0 f1
   have z0 := blk_cell K.out.z 0 _ rfl
   have z1 := blk_cell K.out.z 1 _ rfl
   have f0 := blk_frozen K.out.z 0
   have f1 := blk_frozen K.out.z 1
   go_wp2_with fail
   have e1 := blk_cell (blk_set (blk_set K.out.z 0 (.int .i64 r1)) 1 (.int .i64 r2)) 0 _ rfl
   have e2 := blk_cell (blk_set (blk_set K.out.z 0 (.int .i64 r1)) 1 (.int .i64 r2)) 1 _ rfl
   refine bodyPost_ret (v := .tuple #[Fv r1 r2, .int .i64 r3]) (by simp [results, Tryz.results146, go_sem, e1, e2]) rfl ⟨by rw [F2.out], Bset1 (Bset1 K.out.n (by omega) _ _) (by omega) _ _⟩
  ·have c2' : ((q1 : Int) != 0) = true := by rw [bne_iff_ne]; omega
   have F2 := zh (BIG.out (.inr c2))
   clear SML BIG c1 c2
   go_wp2_with fail
   have e1 := blk_cell (blk_set (blk_set K.out.z 0 (.int .i64 0)) 1 (.int .i64 0)) 0 _ rfl
   have e2 := blk_cell (blk_set (blk_set K.out.z 0 (.int .i64 0)) 1 (.int .i64 0)) 1 _ rfl
   refine bodyPost_ret (v := .tuple #[Fv 0 0, .int .i64 16]) (by simp [results, Tryz.results146, go_sem, e1, e2]) rfl ⟨by rw [F2.out], Bset1 (Bset1 K.out.n (by omega) _ _) (by omega) _ _⟩
 ·have c1' : ((p1 : Int) != 0) = true := by rw [bne_iff_ne]; omega
  have F2 := zh (BIG.out (.inl c1))
  clear SML BIG c1
  go_wp2_with fail
  have e1 := blk_cell (blk_set (blk_set K.out.z 0 (.int .i64 0)) 1 (.int .i64 0)) 0 _ rfl
  have e2 := blk_cell (blk_set (blk_set K.out.z 0 (.int .i64 0)) 1 (.int .i64 0)) 1 _ rfl
  refine bodyPost_ret (v := .tuple #[Fv 0 0, .int .i64 16]) (by simp [results, Tryz.results146, go_sem, e1, e2]) rfl ⟨by rw [F2.out], Bset1 (Bset1 K.out.n (by omega) _ _) (by omega) _ _⟩
end Go.Proofs.YtbbnkclajpaghaaGreatDoor
namespace Go.Proofs.YtbbnkclajpaghaaGreatDoor
open Go.ChangeShapes Go.WideShapes Go.ChangeAt Go.RowKit
attribute [local go_sem ↓] Go.wp_at_zero Go.wp_at_succ
def dg : Nat → Nat → Nat
 | n, 0 => n % 4294967296
 | n, i + 1 => dg (n / 4294967296) i
abbrev Dv (n : Nat) : Value := Bv (dg n 0) (dg n 1) (dg n 2) (dg n 3)
end Go.Proofs.YtbbnkclajpaghaaGreatDoor
namespace Go.Proofs.YtbbnkclajpaghaaGreatDoor
open Go.ChangeShapes Go.WideShapes Go.ChangeAt Go.RowKit
attribute [local go_sem ↓] Go.wp_at_zero Go.wp_at_succ
structure VF (n d : Int) : Prop where
 d1 : 1 ≤ d
 d2 : d ≤ 1000000000000000000
 n1 : -1000000000000000000 ≤ n
 n2 : n ≤ 1000000000000000000
 g : Nat.gcd n.natAbs d.natAbs = 1
theorem errF_ok {n d : Int} (h : errF n d = 0) : VF n d := by
 unfold errF at h
 by_cases c : okF n d = true
 ·unfold okF at c
  rw [Bool.and_eq_true, decide_eq_true_eq, beq_iff_eq] at c
  exact ⟨c.1.1, c.1.2.1, c.1.2.2.1, c.1.2.2.2, c.2⟩
 ·rw [if_neg c] at h; cases h
theorem VF.err {n d : Int} (h : VF n d) : errF n d = 0 := by
 rw [errF_in ⟨h.d1, h.d2, h.n1, h.n2⟩, h.g]; rfl
theorem errB_ok {an ad bn bd : Int} (h : errB an ad bn bd = 0) : VF an ad ∧ VF bn bd := by
 unfold errB at h
 by_cases c : errF an ad ≠ 0
 ·rw [if_pos c] at h; exact absurd h c
 ·rw [if_neg c] at h
  exact ⟨errF_ok (by simpa using c), errF_ok h⟩
theorem VF.both {an ad bn bd : Int} (h : VF an ad) (k : VF bn bd) : errB an ad bn bd = 0 := by
 unfold errB; rw [if_neg (by rw [h.err]; decide)]; exact k.err
def mulR (an ad bn bd : Int) : Int × Int × Int := if errB an ad bn bd = 0 then mulF an ad bn bd else (0, 0, errB an ad bn bd)
def divR (an ad bn bd : Int) : Int × Int × Int := if errB an ad bn bd = 0 then (if bn = 0 then (0, 0, 18) else if bn < 0 then mulF an ad (-bd) (-bn) else mulF an ad bd bn) else (0, 0, errB an ad bn bd)
theorem VF.over {n d : Int} (h : VF n d) : (n < 0 → VF (-d) (-n)) ∧ (0 < n → VF d n) := by
 have g2 : Nat.gcd d.natAbs n.natAbs = 1 := by rw [Nat.gcd_comm]; exact h.g
 have := h.d1
 have := h.d2
 have := h.n1
 have := h.n2
 refine ⟨fun hn => ⟨by omega, by omega, by omega, by omega, ?_⟩, fun hn => ⟨by omega, by omega, by omega, by omega, g2⟩⟩
 rw [Int.natAbs_neg, Int.natAbs_neg]; exact g2
theorem mul_calls (an ad bn bd : Int) (w : World) :
  Calls Tryz.prog 127 #[Fv an ad, Fv bn bd] w fun e w' => e = .returned (Rv (mulR an ad bn bd)) ∧ Below w.heap.size w w' := by
 have C1 := zh (fun W => both_calls an ad bn bd W)
 by_cases ck : errB an ad bn bd = 0
 rotate_left
 ·have F : Hid (mulR an ad bn bd = (0, 0, errB an ad bn bd)) := zh (by unfold mulR; rw [if_neg ck])
  have ck' : (errB an ad bn bd != 0) = true := by rw [bne_iff_ne]; exact ck
  generalize mulR an ad bn bd = res at *
  generalize errB an ad bn bd = er at *
  clear ck
  go_enter Tryz.func127, Tryz.ntmps127
  go_wp2_with fail
  refine (C1.out _).mono ?_
  rintro e w1 ⟨rfl, hb⟩
  have K := zh ((PK.init w an ad bn bd).next hb)
  clear hb
  have z0 := blk_cell K.out.z 0 _ rfl
  have z1 := blk_cell K.out.z 1 _ rfl
  have f0 := blk_frozen K.out.z 0
  have f1 := blk_frozen K.out.z 1
  go_wp2_with fail
  have e1 := blk_cell (blk_set (blk_set K.out.z 0 (.int .i64 0)) 1 (.int .i64 0)) 0 _ rfl
  have e2 := blk_cell (blk_set (blk_set K.out.z 0 (.int .i64 0)) 1 (.int .i64 0)) 1 _ rfl
  refine bodyPost_ret (v := .tuple #[Fv 0 0, .int .i64 er]) (by simp [results, Tryz.results127, go_sem, e1, e2]) rfl ⟨by rw [F.out], Bset1 (Bset1 K.out.n (by omega) _ _) (by omega) _ _⟩
 ·have F : Hid (mulR an ad bn bd = mulF an ad bn bd) := zh (by unfold mulR; rw [if_pos ck])
  obtain ⟨va, vb⟩ := errB_ok ck
  rw [ck] at C1
  have PC := zh (fun W => product_calls an ad bn bd W (by have := va.n1; omega) (by have := va.n2; omega) va.d1 (by have := va.d2; omega) (by have := vb.n1; omega) (by have := vb.n2; omega) vb.d1 (by have := vb.d2; omega))
  generalize mulR an ad bn bd = res at *
  generalize mulF an ad bn bd = r at *
  obtain ⟨r1, r2, r3⟩ := r
  clear ck va vb
  go_enter Tryz.func127, Tryz.ntmps127
  go_wp2_with fail
  refine (C1.out _).mono ?_
  rintro e w1 ⟨rfl, hb⟩
  have K := zh ((PK.init w an ad bn bd).next hb)
  clear hb
  have a0 := blk_cell K.out.a 0 _ rfl
  have a1 := blk_cell K.out.a 1 _ rfl
  have b0 := blk_cell K.out.b 0 _ rfl
  have b1 := blk_cell K.out.b 1 _ rfl
  go_wp2_with fail
  refine (PC.out _).mono ?_
  rintro e w2 ⟨rfl, hb⟩
  replace K := zh (K.out.next hb)
  clear hb
  clear a0 a1 b0 b1
  have z0 := blk_cell K.out.z 0 _ rfl
  have z1 := blk_cell K.out.z 1 _ rfl
  have f0 := blk_frozen K.out.z 0
  have f1 := blk_frozen K.out.z 1
  go_wp2_with fail
  have e1 := blk_cell (blk_set (blk_set K.out.z 0 (.int .i64 r1)) 1 (.int .i64 r2)) 0 _ rfl
  have e2 := blk_cell (blk_set (blk_set K.out.z 0 (.int .i64 r1)) 1 (.int .i64 r2)) 1 _ rfl
  refine bodyPost_ret (v := .tuple #[Fv r1 r2, .int .i64 r3]) (by simp [results, Tryz.results127, go_sem, e1, e2]) rfl ⟨by rw [F.out], Bset1 (Bset1 K.out.n (by omega) _ _) (by omega) _ _⟩
theorem div_calls (an ad bn bd : Int) (w : World) :
  Calls Tryz.prog 129 #[Fv an ad, Fv bn bd] w fun e w' => e = .returned (Rv (divR an ad bn bd)) ∧ Below w.heap.size w w' := by
 have C1 := zh (fun W => both_calls an ad bn bd W)
 by_cases ck : errB an ad bn bd = 0
 rotate_left
 ·have F : Hid (divR an ad bn bd = (0, 0, errB an ad bn bd)) := zh (by unfold divR; rw [if_neg ck])
  have ck' : (errB an ad bn bd != 0) = true := by rw [bne_iff_ne]; exact ck
  generalize divR an ad bn bd = res at *
  generalize errB an ad bn bd = er at *
  clear ck
  go_enter Tryz.func129, Tryz.ntmps129
  go_wp2_with fail
  refine (C1.out _).mono ?_
  rintro e w1 ⟨rfl, hb⟩
  have K := zh ((PK.init w an ad bn bd).next hb)
  clear hb
  have z0 := blk_cell K.out.z 0 _ rfl
  have z1 := blk_cell K.out.z 1 _ rfl
  have f0 := blk_frozen K.out.z 0
  have f1 := blk_frozen K.out.z 1
  go_wp2_with fail
  have e1 := blk_cell (blk_set (blk_set K.out.z 0 (.int .i64 0)) 1 (.int .i64 0)) 0 _ rfl
  have e2 := blk_cell (blk_set (blk_set K.out.z 0 (.int .i64 0)) 1 (.int .i64 0)) 1 _ rfl
  refine bodyPost_ret (v := .tuple #[Fv 0 0, .int .i64 er]) (by simp [results, Tryz.results129, go_sem, e1, e2]) rfl ⟨by rw [F.out], Bset1 (Bset1 K.out.n (by omega) _ _) (by omega) _ _⟩
 ·obtain ⟨va, vb⟩ := errB_ok ck
  rw [ck] at C1
  have F0 : Hid (divR an ad bn bd = if bn = 0 then (0, 0, 18) else if bn < 0 then mulF an ad (-bd) (-bn) else mulF an ad bd bn) := zh (by unfold divR; rw [if_pos ck])
  generalize divR an ad bn bd = res at *
  have d1 := va.d1
  have d2 := va.d2
  have d3 := vb.d1
  have d4 := vb.d2
  have d5 := va.n1
  have d6 := va.n2
  have d7 := vb.n1
  have d8 := vb.n2
  clear ck va vb
  by_cases bz : bn = 0
  ·have F : Hid (res = (0, 0, 18)) := zh (by rw [F0.out, if_pos bz])
   have bz' : (bn == 0) = true := by rw [bz]; rfl
   clear bz F0
   go_enter Tryz.func129, Tryz.ntmps129
   go_wp2_with fail
   refine (C1.out _).mono ?_
   rintro e w1 ⟨rfl, hb⟩
   have K := zh ((PK.init w an ad bn bd).next hb)
   clear hb
   have a0 := blk_cell K.out.a 0 _ rfl
   have a1 := blk_cell K.out.a 1 _ rfl
   have b0 := blk_cell K.out.b 0 _ rfl
   have b1 := blk_cell K.out.b 1 _ rfl
   have z0 := blk_cell K.out.z 0 _ rfl
   have z1 := blk_cell K.out.z 1 _ rfl
   have f0 := blk_frozen K.out.z 0
   have f1 := blk_frozen K.out.z 1
   go_wp2_with fail
   have e1 := blk_cell (blk_set (blk_set K.out.z 0 (.int .i64 0)) 1 (.int .i64 0)) 0 _ rfl
   have e2 := blk_cell (blk_set (blk_set K.out.z 0 (.int .i64 0)) 1 (.int .i64 0)) 1 _ rfl
   refine bodyPost_ret (v := .tuple #[Fv 0 0, .int .i64 18]) (by simp [results, Tryz.results129, go_sem, e1, e2]) rfl ⟨by rw [F.out], Bset1 (Bset1 K.out.n (by omega) _ _) (by omega) _ _⟩
  have bz' : (bn == 0) = false := by rw [beq_eq_false_iff_ne]; exact bz
  by_cases bn0 : bn < 0
  ·have F : Hid (res = mulF an ad (-bd) (-bn)) := zh (by rw [F0.out, if_neg bz, if_pos bn0])
   have PC := zh (fun W => product_calls an ad (-bd) (-bn) W (by omega) (by omega) (by omega) (by omega) (by omega) (by omega) (by omega) (by omega))
   generalize mulF an ad (-bd) (-bn) = r at *
   obtain ⟨r1, r2, r3⟩ := r
   clear bz F0
   go_enter Tryz.func129, Tryz.ntmps129
   go_wp2_with fail
   refine (C1.out _).mono ?_
   rintro e w1 ⟨rfl, hb⟩
   have K := zh ((PK.init w an ad bn bd).next hb)
   clear hb
   have a0 := blk_cell K.out.a 0 _ rfl
   have a1 := blk_cell K.out.a 1 _ rfl
   have b0 := blk_cell K.out.b 0 _ rfl
   have b1 := blk_cell K.out.b 1 _ rfl
   have kl := blk_lt K.out.a
   have kl2 := blk_lt K.out.b
   go_wp2_with fail
   refine (PC.out _).mono ?_
   rintro e w2 ⟨rfl, hb⟩
   replace K : Hid (PK w w2 an ad bn bd) := zh (K.out.next (Bgo (Bal (Below.refl _ _) _) hb))
   clear hb kl kl2
   clear a0 a1 b0 b1
   have z0 := blk_cell K.out.z 0 _ rfl
   have z1 := blk_cell K.out.z 1 _ rfl
   have f0 := blk_frozen K.out.z 0
   have f1 := blk_frozen K.out.z 1
   go_wp2_with fail
   have e1 := blk_cell (blk_set (blk_set K.out.z 0 (.int .i64 r1)) 1 (.int .i64 r2)) 0 _ rfl
   have e2 := blk_cell (blk_set (blk_set K.out.z 0 (.int .i64 r1)) 1 (.int .i64 r2)) 1 _ rfl
   refine bodyPost_ret (v := .tuple #[Fv r1 r2, .int .i64 r3]) (by simp [results, Tryz.results129, go_sem, e1, e2]) rfl ⟨by rw [F.out], Bset1 (Bset1 K.out.n (by omega) _ _) (by omega) _ _⟩
  ·have F : Hid (res = mulF an ad bd bn) := zh (by rw [F0.out, if_neg bz, if_neg bn0])
   have PC := zh (fun W => product_calls an ad bd bn W (by omega) (by omega) (by omega) (by omega) (by omega) (by omega) (by omega) (by omega))
   generalize mulF an ad bd bn = r at *
   obtain ⟨r1, r2, r3⟩ := r
   clear bz F0
   go_enter Tryz.func129, Tryz.ntmps129
   go_wp2_with fail
   refine (C1.out _).mono ?_
   rintro e w1 ⟨rfl, hb⟩
   have K := zh ((PK.init w an ad bn bd).next hb)
   clear hb
   have a0 := blk_cell K.out.a 0 _ rfl
   have a1 := blk_cell K.out.a 1 _ rfl
   have b0 := blk_cell K.out.b 0 _ rfl
   have b1 := blk_cell K.out.b 1 _ rfl
   have kl := blk_lt K.out.a
   have kl2 := blk_lt K.out.b
   go_wp2_with fail
   refine (PC.out _).mono ?_
   rintro e w2 ⟨rfl, hb⟩
   replace K : Hid (PK w w2 an ad bn bd) := zh (K.out.next (Bgo (Bal (Below.refl _ _) _) hb))
   clear hb kl kl2
   clear a0 a1 b0 b1
   have z0 := blk_cell K.out.z 0 _ rfl
   have z1 := blk_cell K.out.z 1 _ rfl
   have f0 := blk_frozen K.out.z 0
   have f1 := blk_frozen K.out.z 1
   go_wp2_with fail
   have e1 := blk_cell (blk_set (blk_set K.out.z 0 (.int .i64 r1)) 1 (.int .i64 r2)) 0 _ rfl
   have e2 := blk_cell (blk_set (blk_set K.out.z 0 (.int .i64 r1)) 1 (.int .i64 r2)) 1 _ rfl
   refine bodyPost_ret (v := .tuple #[Fv r1 r2, .int .i64 r3]) (by simp [results, Tryz.results129, go_sem, e1, e2]) rfl ⟨by rw [F.out], Bset1 (Bset1 K.out.n (by omega) _ _) (by omega) _ _⟩
end Go.Proofs.YtbbnkclajpaghaaGreatDoor
namespace Go.Proofs.YtbbnkclajpaghaaGreatDoor
open Go
theorem dec_small {u : Nat} (h : u < 10) : Lib.decDigits u = [UInt8.ofNat (48 + u)] := by rw [Lib.decDigits, dif_pos h]
theorem dec_big {u : Nat} (h : ¬ u < 10) : Lib.decDigits u = Lib.decDigits (u / 10) ++ [UInt8.ofNat (48 + u % 10)] := by rw [Lib.decDigits, dif_neg h]
theorem dig_nat {k : Nat} (h : k < 10) : (UInt8.ofNat (48 + k)).toNat = 48 + k := by
 rw [UInt8.toNat_ofNat']; omega
theorem dec_digit : ∀ (n u : Nat), u < n → ∀ c ∈ Lib.decDigits u, 48 ≤ c.toNat ∧ c.toNat ≤ 57 := by
 intro n
 induction n with
 | zero => intro u h; omega
 | succ n ih =>
  intro u h c hc
  by_cases hu : u < 10
  ·rw [dec_small hu] at hc
   simp only [List.mem_singleton] at hc
   subst hc
   rw [dig_nat hu]; omega
  ·rw [dec_big hu] at hc
   rcases List.mem_append.1 hc with h1 | h1
   ·exact ih (u / 10) (by omega) c h1
   ·simp only [List.mem_singleton] at h1
    subst h1
    rw [dig_nat (by omega)]; omega
theorem dec_ne (u : Nat) : Lib.decDigits u ≠ [] := by
 by_cases hu : u < 10
 ·rw [dec_small hu]; simp
 ·rw [dec_big hu]; simp
def spell (acc : Nat) (l : List UInt8) : Nat := l.foldl (fun a c => a * 10 + (c.toNat - 48)) acc
theorem spell_cons (acc : Nat) (c : UInt8) (l : List UInt8) : spell acc (c :: l) = spell (acc * 10 + (c.toNat - 48)) l := by unfold spell; rw [List.foldl_cons]
theorem spell_snoc (acc : Nat) (l : List UInt8) (c : UInt8) : spell acc (l ++ [c]) = spell acc l * 10 + (c.toNat - 48) := by unfold spell; rw [List.foldl_append, List.foldl_cons, List.foldl_nil]
theorem spell_ge : ∀ (l : List UInt8) (acc : Nat), acc ≤ spell acc l
 | [], acc => Nat.le_refl _
 | c :: l, acc => by
  rw [spell_cons]
  exact Nat.le_trans (by omega) (spell_ge l (acc * 10 + (c.toNat - 48)))
theorem spell_dec : ∀ (n u : Nat), u < n → spell 0 (Lib.decDigits u) = u := by
 intro n
 induction n with
 | zero => intro u h; omega
 | succ n ih =>
  intro u h
  by_cases hu : u < 10
  ·rw [dec_small hu, show [UInt8.ofNat (48 + u)] = [] ++ [UInt8.ofNat (48 + u)] from rfl, spell_snoc, dig_nat hu]
   simp [spell]
  ·rw [dec_big hu, spell_snoc, ih (u / 10) (by omega), dig_nat (by omega)]
   omega
theorem parseU_spell {M : Nat} (hM : M = 18446744073709551615) : ∀ (l : List UInt8) (acc : Nat), (∀ c ∈ l, 48 ≤ c.toNat ∧ c.toNat ≤ 57) → spell acc l ≤ M → Lib.parseUintM M acc l = .ok (spell acc l)
 | [], acc, _, _ => rfl
 | c :: l, acc, hd, hs => by
  have h1 := hd c (by simp)
  rw [spell_cons] at hs ⊢
  have h2 := spell_ge l (acc * 10 + (c.toNat - 48))
  unfold Lib.parseUintM
  rw [if_pos h1, if_neg (by omega), if_neg (by omega)]
  exact parseU_spell hM l _ (fun x hx => hd x (by simp [hx])) hs
theorem parseI_minus {r : List UInt8} {u : Nat} (h : Lib.parseUintB 64 r = .ok u) (hu : u ≤ 9223372036854775808) : Lib.parseIntB 64 (45 :: r) = .ok (-(u : Int)) := by
 unfold Lib.parseIntB
 have e : (if (45 : UInt8).toNat = 43 ∨ (45 : UInt8).toNat = 45 then r else 45 :: r) = r := if_pos (.inr rfl)
 simp only [e, h]
 have n : (45 : UInt8).toNat = 45 := rfl
 rw [if_neg (fun k => k.1 n), if_neg (fun k => by have := k.2; rw [show (2 : Nat) ^ (64 - 1) = 9223372036854775808 from rfl] at this; omega), if_pos n]
theorem parseI_plain {c : UInt8} {r : List UInt8} {u : Nat} (hc : 48 ≤ c.toNat) (h : Lib.parseUintB 64 (c :: r) = .ok u) (hu : u < 9223372036854775808) : Lib.parseIntB 64 (c :: r) = .ok (u : Int) := by
 unfold Lib.parseIntB
 have e : (if c.toNat = 43 ∨ c.toNat = 45 then r else c :: r) = c :: r := if_neg (by omega)
 simp only [e, h]
 rw [if_neg (fun k => by have := k.2; rw [show (2 : Nat) ^ (64 - 1) = 9223372036854775808 from rfl] at this; omega), if_neg (fun k => by have := k.1; omega), if_neg (by omega)]
theorem parseI_itoa {n : Int} (h1 : -9223372036854775808 ≤ n) (h2 : n ≤ 9223372036854775807) : Lib.parseIntB 64 (Lib.itoa n) = .ok n := by
 have U : ∀ u : Nat, u ≤ 9223372036854775808 → Lib.parseUintB 64 (Lib.decDigits u) = .ok u := fun u hu => by
  unfold Lib.parseUintB
  have hs := spell_dec (u + 1) u (by omega)
  rw [if_neg (dec_ne u), parseU_spell (by decide) _ _ (dec_digit (u + 1) u (by omega)) (by rw [hs]; omega), hs]
 by_cases hn : n < 0
 ·have e : Lib.itoa n = 45 :: Lib.decDigits n.natAbs := by unfold Lib.itoa; rw [if_pos hn]
  rw [e, parseI_minus (U n.natAbs (by omega)) (by omega)]
  congr 1; omega
 ·have e : Lib.itoa n = Lib.decDigits n.toNat := by unfold Lib.itoa; rw [if_neg hn]
  rw [e]
  have u := U n.toNat (by omega)
  have dg := dec_digit (n.toNat + 1) n.toNat (by omega)
  cases hl : Lib.decDigits n.toNat with
  | nil => exact absurd hl (dec_ne _)
  | cons c r =>
   rw [hl] at u dg
   rw [parseI_plain (dg c (by simp)).1 u (by omega)]
   congr 1; omega
theorem itoa_byte {n : Int} : ∀ c ∈ Lib.itoa n, c ≠ 47 := fun c hc e => by
 subst e
 unfold Lib.itoa at hc
 have t : (47 : UInt8).toNat = 47 := rfl
 split at hc
 ·rcases List.mem_cons.1 hc with h | h
  ·cases h
  ·have := dec_digit (n.natAbs + 1) n.natAbs (by omega) _ h; omega
 ·have := dec_digit (n.toNat + 1) n.toNat (by omega) _ hc; omega
def textL (n d : Int) : List UInt8 := if d = 1 then Lib.itoa n else Lib.itoa n ++ 47 :: Lib.itoa d
theorem byte_none : ∀ (l : List UInt8) (c : UInt8), (∀ x ∈ l, x ≠ c) → Lib.indexByte l c = -1
 | [], _, _ => rfl
 | b :: l, c, h => by
  have hb : (b == c) = false := by rw [beq_eq_false_iff_ne]; exact h b (by simp)
  unfold Lib.indexByte
  rw [hb, byte_none l c (fun x hx => h x (by simp [hx]))]
  rfl
theorem byte_at : ∀ (l : List UInt8) (c : UInt8) (r : List UInt8), (∀ x ∈ l, x ≠ c) → Lib.indexByte (l ++ c :: r) c = (l.length : Int)
 | [], c, r, _ => by simp [Lib.indexByte]
 | b :: l, c, r, h => by
  have hb : (b == c) = false := by rw [beq_eq_false_iff_ne]; exact h b (by simp)
  have ih := byte_at l c r (fun x hx => h x (by simp [hx]))
  rw [List.cons_append]
  unfold Lib.indexByte
  rw [hb, ih]
  have : ((l.length : Int) == -1) = false := by rw [beq_eq_false_iff_ne]; omega
  rw [this]
  simp
theorem cut_none {l : List UInt8} (h : ∀ x ∈ l, x ≠ 47) : Lib.cut l [47] = (l, [], false) := by
 unfold Lib.cut
 rw [Lib.index_one, byte_none l 47 h, if_neg (by decide)]
theorem cut_at {l r : List UInt8} (h : ∀ x ∈ l, x ≠ 47) : Lib.cut (l ++ 47 :: r) [47] = (l, r, true) := by
 unfold Lib.cut
 rw [Lib.index_one, byte_at l 47 r h, if_pos (by omega)]
 simp [List.drop_append]
theorem cut_text (n d : Int) : Lib.cut (textL n d) [47] = (Lib.itoa n, if d = 1 then [] else Lib.itoa d, !decide (d = 1)) := by
 unfold textL
 by_cases h : d = 1
 ·rw [if_pos h, if_pos h, cut_none itoa_byte]; simp [h]
 ·rw [if_neg h, if_neg h, cut_at itoa_byte]; simp [h]
theorem text_len {n d : Int} (v : VF n d) : (textL n d).length ≤ 40 := by
 have L : ∀ x : Int, -1000000000000000000 ≤ x → x ≤ 1000000000000000000 → (Lib.itoa x).length ≤ 20 ∧ (0 ≤ x → (Lib.itoa x).length ≤ 19) := by
  intro x h1 h2
  have D : ∀ (k u : Nat), u < 10 ^ (k + 1) → (Lib.decDigits u).length ≤ k + 1 := by
   intro k
   induction k with
   | zero => intro u hu; rw [dec_small (by simpa using hu)]; simp
   | succ k ih =>
    intro u hu
    by_cases h : u < 10
    ·rw [dec_small h]; simp
    ·rw [dec_big h, List.length_append]
     have := ih (u / 10) (by rw [Nat.pow_succ] at hu; omega)
     simp; omega
  unfold Lib.itoa
  split
  ·have := D 18 x.natAbs (by omega)
   simp; omega
  ·have := D 18 x.toNat (by omega)
   omega
 have a := L n v.n1 v.n2
 have b := L d (by have := v.d1; omega) v.d2
 have b2 := b.2 (by have := v.d1; omega)
 unfold textL
 split
 ·omega
 ·simp; omega
def PR (l : List UInt8) (r : Int × Int × Int) : Prop := (r.2.2 = 0 ∧ VF r.1 r.2.1 ∧ textL r.1 r.2.1 = l) ∨ (r = (0, 0, 12) ∧ ∀ n d, VF n d → textL n d ≠ l)
theorem text_inj {n d m k : Int} (v : VF n d) (u : VF m k) (h : textL n d = textL m k) : n = m ∧ d = k := by
 have c := congrArg (fun l => Lib.cut l [47]) h
 simp only [cut_text, Prod.mk.injEq] at c
 obtain ⟨c1, c2, c3⟩ := c
 have vn := parseI_itoa (n := n) (by have := v.n1; omega) (by have := v.n2; omega)
 have um := parseI_itoa (n := m) (by have := u.n1; omega) (by have := u.n2; omega)
 have vd := parseI_itoa (n := d) (by have := v.d1; omega) (by have := v.d2; omega)
 have uk := parseI_itoa (n := k) (by have := u.d1; omega) (by have := u.d2; omega)
 rw [c1, um] at vn
 refine ⟨by cases vn; rfl, ?_⟩
 by_cases h1 : d = 1
 ·by_cases h2 : k = 1
  ·omega
  ·simp [h1, h2] at c3
 ·by_cases h2 : k = 1
  ·simp [h1, h2] at c3
  ·rw [if_neg h1, if_neg h2] at c2
   rw [c2, uk] at vd
   cases vd; rfl
theorem PR.unique {l : List UInt8} {r r' : Int × Int × Int} (h : PR l r) (h' : PR l r') : r = r' := by
 obtain ⟨a, b, c⟩ := r
 obtain ⟨a', b', c'⟩ := r'
 rcases h with ⟨h1, h2, h3⟩ | ⟨h1, h2⟩
 ·rcases h' with ⟨k1, k2, k3⟩ | ⟨k1, k2⟩
  ·obtain ⟨e1, e2⟩ := text_inj h2 k2 (h3.trans k3.symm)
   simp only at h1 k1 e1 e2
   rw [h1, k1, e1, e2]
  ·exact absurd h3 (k2 _ _ h2)
 ·rcases h' with ⟨k1, k2, k3⟩ | ⟨k1, k2⟩
  ·exact absurd k3 (h2 _ _ k2)
  ·rw [h1, k1]
end Go.Proofs.YtbbnkclajpaghaaGreatDoor
