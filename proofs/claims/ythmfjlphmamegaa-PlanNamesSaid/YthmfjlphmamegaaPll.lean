/- What the functions of layer 43 compute for one rule, and for a plan, as plain functions. -/
import Derived.Test.YthmfjlphmamegaaPlm
namespace Go.Proofs.Ythmfjlphmamegaa
open Go.ChangeShapes Go.WideShapes Go.ChangeAt Go.RowKit
set_option linter.unusedVariables false

def at' (l : List Slt) (i : Int) : Slt := l.getD i.toNat d0
def holdB (l : List Slt) (x low high : Int) (i : Nat) : Bool := !((i : Int) == x) && ((l.getD i d0).st == low && decide ((l.getD i d0).fr < high))
def holdTo (l : List Slt) (rule x low high : Int) (m : Nat) : List Bre := ((List.range m).filter (holdB l x low high)).map fun (i : Nat) => (rule, (i : Int), (-1 : Int))
theorem holdTo_succ (l : List Slt) (rule x low high : Int) (m : Nat) : holdTo l rule x low high (m + 1) = holdTo l rule x low high m ++ (if holdB l x low high m then [(rule, (m : Int), (-1 : Int))] else []) := by
  unfold holdTo
  rw [List.range_succ, List.filter_append, List.map_append]
  congr 1
  cases hp : holdB l x low high m <;> simp [hp]
theorem holdTo_len (l : List Slt) (rule x low high : Int) (m : Nat) : (holdTo l rule x low high m).length ≤ m := by
  unfold holdTo
  rw [List.length_map]
  exact Nat.le_trans (List.length_filter_le _ _) (by simp)
def winB (l : List Slt) (r : Rul) : Bool := decide (0 ≤ findI l r.a) && (decide ((at' l (findI l r.a)).fr < r.low) || decide (r.high < (at' l (findI l r.a)).to))
def befB (l : List Slt) (r : Rul) : Bool := decide (0 ≤ findI l r.a) && (decide (0 ≤ findI l r.b) && decide ((at' l (findI l r.b)).fr < (at' l (findI l r.a)).to + r.low))
def apaB (l : List Slt) (r : Rul) : Bool := decide (0 ≤ findI l r.a) && (decide (0 ≤ findI l r.b) && meetB (at' l (findI l r.a)) (at' l (findI l r.b)) 0)
def brokenL (l : List Slt) (r : Rul) (rule : Int) : List Bre :=
  if r.kind = 1 then (if winB l r then [(rule, findI l r.a, -1)] else [])
  else if r.kind = 2 then (if befB l r then [(rule, findI l r.a, findI l r.b)] else [])
  else if r.kind = 3 then (if apaB l r then [(rule, findI l r.a, findI l r.b)] else [])
  else if r.kind = 4 then nearL l rule r.low r.high
  else if r.kind = 5 then holdTo l rule (findI l r.a) r.low r.high l.length
  else []
theorem brokenL_len (l : List Slt) (r : Rul) (rule : Int) : (brokenL l r rule).length ≤ l.length * l.length + l.length + 1 := by
  have h1 := nearTo_len l rule r.low r.high l.length
  have h2 := holdTo_len l rule (findI l r.a) r.low r.high l.length
  unfold brokenL nearL
  split
  · split <;> simp
  split
  · split <;> simp
  split
  · split <;> simp
  split
  · omega
  split
  · omega
  · simp
def allTo (l : List Slt) (rs : List Rul) : Nat → List Bre
  | 0 => nearL l (-1) (-1) 0
  | k + 1 => allTo l rs k ++ (match rs[k]? with | some r => brokenL l r k | none => [])
theorem allTo_succ {l : List Slt} {rs : List Rul} {k : Nat} (h : k < rs.length) : allTo l rs (k + 1) = allTo l rs k ++ brokenL l rs[k] k := by
  simp [allTo, List.getElem?_eq_getElem h]
/- a new slice of one breach -/
theorem own_single (w : World) (x y z : Int) : (w.alloc (.cells #[.int .i64 x, .int .i64 y, .int .i64 z] 68)).ownsRow w.heap.size 68 3 (.slice (some ⟨w.heap.size, 0, none⟩) 1 1) 1 (bre [(x, y, z)]) := by
  refine ⟨rfl, .inr ⟨w.heap.size, 1, #[.int .i64 x, .int .i64 y, .int .i64 z], rfl, Nat.le_refl _, blk_new w _, Nat.le_refl _, by unfold maxLen; omega, rfl, rfl⟩⟩
end Go.Proofs.Ythmfjlphmamegaa
