/- Plans as plain data, how they lie in memory, and what the functions of layer 43 compute, as plain functions. -/
import Derived.Test.YthmfjlphmamegaaBlk
import Derived.WalkKit
import Derived.ProofKit
import Derived.OpenShut
import Derived.WalkLawsBesides
import Derived.WalkSpells
import Derived.Outline
import Derived.Lib.Hide
import Derived.Deep.QuietTactic
import Derived.BigQuiet
import Derived.WalkSmall
namespace Go.Proofs.Ythmfjlphmamegaa
open Go.ChangeShapes Go.WideShapes Go.ChangeAt Go.RowKit

theorem Bgo {w W w1 : World} (h : Below w.heap.size w W) (hb : Below W.heap.size W w1) : Below w.heap.size w w1 := h.trans (hb.mono h.size)
theorem Bal {w W : World} (h : Below w.heap.size w W) (o : Obj) : Below w.heap.size w (W.alloc o) := h.alloc h.size o
theorem int_eq {k : IntKind} {a b : Int} (h : a = b) : Value.int k a = Value.int k b := by rw [h]
theorem ret_int {k : IntKind} {a b : Int} (h : a = b) : Ending.returned (.int k a) = .returned (.int k b) := by rw [h]
theorem ret_bool {a b : Bool} (h : a = b) : Ending.returned (.bool a) = .returned (.bool b) := by rw [h]

theorem quiet_left {P : Program} {f : FuncId} {args : Array Value} {w : World} {n : Nat} {v : Value}
    (h : Calls P f args (w.drewN n) fun e w' => e = .returned v ∧ w.drewN n = w') : Calls P f args (w.drewN n) fun e w'' => e = .returned v ∧ ∃ m, w'' = w.drewN m :=
  h.mono fun _ _ ⟨he, hm⟩ => ⟨he, n, hm.symm⟩
structure Slt where
  name : ByteArray
  st : Int
  fr : Int
  to : Int
structure Rul where
  kind : Int
  a : ByteArray
  b : ByteArray
  low : Int
  high : Int
  why : ByteArray

abbrev Sv (s : Slt) : Value := .agg #[.string s.name, .int .i64 s.st, .int .i64 s.fr, .int .i64 s.to]
abbrev Uv (r : Rul) : Value := .agg #[.int .u8 r.kind, .string r.a, .string r.b, .int .i64 r.low, .int .i64 r.high, .string r.why]
structure SlotAt (w : World) (b off i : Nat) (s : Slt) : Prop where
  c0 : w.cell? ⟨b, off + i * 4, none⟩ = some (.string s.name)
  c1 : w.cell? ⟨b, off + i * 4 + 1, none⟩ = some (.int .i64 s.st)
  c2 : w.cell? ⟨b, off + i * 4 + 2, none⟩ = some (.int .i64 s.fr)
  c3 : w.cell? ⟨b, off + i * 4 + 3, none⟩ = some (.int .i64 s.to)
structure RuleAt (w : World) (b off i : Nat) (r : Rul) : Prop where
  c0 : w.cell? ⟨b, off + i * 6, none⟩ = some (.int .u8 r.kind)
  c1 : w.cell? ⟨b, off + i * 6 + 1, none⟩ = some (.string r.a)
  c2 : w.cell? ⟨b, off + i * 6 + 2, none⟩ = some (.string r.b)
  c3 : w.cell? ⟨b, off + i * 6 + 3, none⟩ = some (.int .i64 r.low)
  c4 : w.cell? ⟨b, off + i * 6 + 4, none⟩ = some (.int .i64 r.high)
  c5 : w.cell? ⟨b, off + i * 6 + 5, none⟩ = some (.string r.why)
def SlotsIn (w : World) (a : Option Addr) (l : List Slt) : Prop := ∀ i (h : i < l.length), ∃ b off, a = some ⟨b, off, none⟩ ∧ b < w.heap.size ∧ SlotAt w b off i l[i]
def RulesIn (w : World) (a : Option Addr) (l : List Rul) : Prop := ∀ i (h : i < l.length), ∃ b off, a = some ⟨b, off, none⟩ ∧ b < w.heap.size ∧ RuleAt w b off i l[i]

theorem SlotAt.next {w w' : World} (hb : Below w.heap.size w w') {b off i : Nat} {s : Slt} (h : SlotAt w b off i s) (hl : b < w.heap.size) : SlotAt w' b off i s :=
  ⟨(hb.cell hl).trans h.c0, (hb.cell hl).trans h.c1, (hb.cell hl).trans h.c2, (hb.cell hl).trans h.c3⟩
theorem RuleAt.next {w w' : World} (hb : Below w.heap.size w w') {b off i : Nat} {s : Rul} (h : RuleAt w b off i s) (hl : b < w.heap.size) : RuleAt w' b off i s :=
  ⟨(hb.cell hl).trans h.c0, (hb.cell hl).trans h.c1, (hb.cell hl).trans h.c2, (hb.cell hl).trans h.c3, (hb.cell hl).trans h.c4, (hb.cell hl).trans h.c5⟩
theorem SlotsIn.next {w w' : World} (hb : Below w.heap.size w w') {a : Option Addr} {l : List Slt} (h : SlotsIn w a l) : SlotsIn w' a l := fun i hi => by
  obtain ⟨b, off, e, hl, hs⟩ := h i hi
  exact ⟨b, off, e, Nat.lt_of_lt_of_le hl hb.size, hs.next hb hl⟩
theorem RulesIn.next {w w' : World} (hb : Below w.heap.size w w') {a : Option Addr} {l : List Rul} (h : RulesIn w a l) : RulesIn w' a l := fun i hi => by
  obtain ⟨b, off, e, hl, hs⟩ := h i hi
  exact ⟨b, off, e, Nat.lt_of_lt_of_le hl hb.size, hs.next hb hl⟩
theorem SlotsIn.take {w : World} {a : Option Addr} {l : List Slt} (h : SlotsIn w a l) (n : Nat) : SlotsIn w a (l.take n) := fun i hi => by
  have hi' : i < l.length := by simp at hi; omega
  obtain ⟨b, off, e, hl, hs⟩ := h i hi'
  exact ⟨b, off, e, hl, by simpa using hs⟩

/- names -/
def charB (c : UInt8) : Bool := (decide (97 ≤ c.toNat) && decide (c.toNat ≤ 122)) || ((decide (48 ≤ c.toNat) && decide (c.toNat ≤ 57)) || decide (c.toNat = 45))
def nameB (s : ByteArray) : Bool := decide (1 ≤ s.size) && (decide (s.size ≤ 40) && ((decide (97 ≤ (s.data.toList.getD 0 0).toNat) && decide ((s.data.toList.getD 0 0).toNat ≤ 122)) && s.data.toList.all charB))
def hourB (t : Int) : Bool := decide (0 ≤ t ∧ t ≤ 1000)
def statB (t : Int) : Bool := decide (0 ≤ t ∧ t < 8)
def slotB (s : Slt) : Bool := nameB s.name && (statB s.st && (hourB s.fr && (hourB s.to && decide (s.fr < s.to))))
/- the place of a name -/
def findN (l : List Slt) (nm : ByteArray) : Nat := (l.takeWhile fun s => !(s.name.toList == nm.toList)).length
def findI (l : List Slt) (nm : ByteArray) : Int := if findN l nm < l.length then findN l nm else -1
theorem findN_le (l : List Slt) (nm : ByteArray) : findN l nm ≤ l.length := by
  unfold findN; exact (List.takeWhile_sublist _).length_le
theorem findN_cons (x : Slt) (l : List Slt) (nm : ByteArray) : findN (x :: l) nm = if x.name.toList == nm.toList then 0 else findN l nm + 1 := by
  unfold findN
  rw [List.takeWhile_cons]
  cases h : (x.name.toList == nm.toList) <;> simp
/- the first k names differ, the next one is it -/
theorem findN_at {l : List Slt} {nm : ByteArray} {k : Nat} (hk : k < l.length) (hne : ∀ j (h : j < l.length), j < k → (l[j].name.toList == nm.toList) = false) (he : (l[k].name.toList == nm.toList) = true) : findN l nm = k := by
  induction l generalizing k with
  | nil => simp at hk
  | cons x l ih =>
    rw [findN_cons]
    cases k with
    | zero => simp at he; simp [he]
    | succ k =>
      have h0 := hne 0 (by simp) (by omega)
      simp at h0
      have := ih (k := k) (by simpa using hk) (fun j hj hjk => hne (j + 1) (by simpa using hj) (by omega)) (by simpa using he)
      simp [h0, this]
theorem findN_none {l : List Slt} {nm : ByteArray} (hne : ∀ j (h : j < l.length), (l[j].name.toList == nm.toList) = false) : findN l nm = l.length := by
  induction l with
  | nil => rfl
  | cons x l ih =>
    rw [findN_cons]
    have h0 := hne 0 (by simp)
    simp at h0
    have := ih (fun j hj => hne (j + 1) (by simpa using hj))
    simp [h0, this]
end Go.Proofs.Ythmfjlphmamegaa
