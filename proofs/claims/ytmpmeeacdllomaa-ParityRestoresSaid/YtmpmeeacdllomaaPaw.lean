/- Words for layer 45: rows of bytes and rows of rows in memory, read or owned. -/
import Derived.Test.YtmpmeeacdllomaaField
import Derived.Test.YtmpmeeacdllomaaBlk
import Derived.Deep.QuietTactic
import Derived.BigQuiet
import Derived.WalkSmall
import Derived.RegionTactic
import Derived.Deep.RegionHeld3
import Derived.Deep.RegionLaw
import Derived.Deep.RegionWith
import Derived.Deep.DrawnRows
import Derived.Maps.AppendAt
import Derived.Deep.AppendLies
import Derived.Deep.Draws
import Derived.OwnWalk
import Derived.Laws.OwnMore
namespace Go.Proofs.Ytmpmeeacdllomaa
open Go.ChangeShapes Go.WideShapes Go.ChangeAt Go.RowKit Gf
set_option linter.unusedVariables false

theorem Bgo {w W w1 : World} (h : Below w.heap.size w W) (hb : Below W.heap.size W w1) : Below w.heap.size w w1 := h.trans (hb.mono h.size)
theorem Bal {w W : World} (h : Below w.heap.size w W) (o : Obj) : Below w.heap.size w (W.alloc o) := h.alloc h.size o
theorem below_drewN {B : Nat} {a w : World} (h : Below B a w) (n : Nat) : Below B a (w.drewN n) := ⟨h.os, h.tape, h.output, h.size, h.block⟩
theorem ret_bool {a b : Bool} (h : a = b) : Ending.returned (.bool a) = .returned (.bool b) := by rw [h]

def bv (l : List Nat) : List Value := l.map fun (x : Nat) => Value.int .u8 (x : Int)
def Byt (l : List Nat) : Prop := ∀ x ∈ l, x < 256
theorem bv_len (l : List Nat) : (bv l).length = l.length := by simp [bv]
theorem bv_get {l : List Nat} {k x : Nat} (h : l[k]? = some x) : (bv l)[k]? = some (.int .u8 (x : Int)) := by simp [bv, h]
theorem bv_at {l : List Nat} {k : Nat} {u : Value} (h : (bv l)[k]? = some u) : ∃ x, l[k]? = some x ∧ u = .int .u8 (x : Int) := by
  simp only [bv, List.getElem?_map, Option.map_eq_some_iff] at h
  obtain ⟨x, hx, e⟩ := h
  exact ⟨x, hx, e.symm⟩
theorem bv_one (l : List Nat) : ∀ u ∈ bv l, u.oneCell' = true := by
  intro u hu
  obtain ⟨x, _, rfl⟩ := List.mem_map.1 hu
  rfl
theorem bv_append (l m : List Nat) : bv (l ++ m) = bv l ++ bv m := by simp [bv]
theorem bv_set (l : List Nat) (k x : Nat) : (bv l).set k (.int .u8 (x : Int)) = bv (l.set k x) := by simp [bv, List.map_set]
theorem Byt.at_ {l : List Nat} (h : Byt l) {k x : Nat} (hk : l[k]? = some x) : x < 256 := h x (List.mem_of_getElem? hk)
theorem Byt.set_ {l : List Nat} (h : Byt l) (k : Nat) {x : Nat} (hx : x < 256) : Byt (l.set k x) := fun y hy => by
  rcases List.mem_or_eq_of_mem_set hy with h' | rfl
  · exact h y h'
  · exact hx
theorem Byt.append {l m : List Nat} (h : Byt l) (h' : Byt m) : Byt (l ++ m) := fun x hx => by
  rcases List.mem_append.1 hx with h1 | h1
  · exact h x h1
  · exact h' x h1
theorem Byt.nil : Byt [] := fun x hx => by simp at hx

/- the cells xs lie at the address, in a block from B on -/
def Hd (B : Nat) (w : World) (A : Option Addr) (xs : List Value) : Prop :=
  ∀ (j : Nat) (u : Value), xs[j]? = some u → ∃ b off, A = some ⟨b, off, none⟩ ∧ B ≤ b ∧ b < w.heap.size ∧ w.cell? ⟨b, off + j, none⟩ = some u
theorem Hd.mono {B B' : Nat} {w : World} {A : Option Addr} {xs : List Value} (h : Hd B w A xs) (hB : B' ≤ B) : Hd B' w A xs := fun j u hu => by
  obtain ⟨b, off, e, h1, h2, h3⟩ := h j u hu
  exact ⟨b, off, e, by omega, h2, h3⟩
theorem Hd.keep {B : Nat} {w w' : World} {A : Option Addr} {xs : List Value} (h : Hd B w A xs) (hs : w.heap.size ≤ w'.heap.size) (hk : ∀ p : Addr, B ≤ p.block → p.block < w.heap.size → w'.cell? p = w.cell? p) : Hd B w' A xs := fun j u hu => by
  obtain ⟨b, off, e, h1, h2, h3⟩ := h j u hu
  exact ⟨b, off, e, h1, by omega, (hk _ h1 h2).trans h3⟩
theorem Hd.next {B : Nat} {w w' : World} {A : Option Addr} {xs : List Value} (hb : Below w.heap.size w w') (h : Hd B w A xs) : Hd B w' A xs := h.keep hb.size fun p _ hp => hb.cell hp
theorem Hd.nil (B : Nat) (w : World) (A : Option Addr) : Hd B w A [] := fun j u hu => by simp at hu
theorem Hd.take_ {B : Nat} {w : World} {A : Option Addr} {xs : List Value} (h : Hd B w A xs) (k : Nat) : Hd B w A (xs.take k) := fun j u hu => by
  rw [List.getElem?_take] at hu
  split at hu
  · exact h j u hu
  · simp at hu
theorem Hd.of_own {w : World} {base : Nat} {e : TypeId} {n cap : Nat} {A : Option Addr} {xs : List Value} (h : w.ownsRow base e 1 (.slice A n cap) n xs) : Hd base w A xs := fun j u hu => by
  rcases h.2 with ⟨_, h2⟩ | ⟨g, cap', cur, hv, hb, hg, hc, hm, hs, ht⟩
  · have h1 := h.1
    rw [h2] at h1
    have : xs = [] := List.eq_nil_of_length_eq_zero (by simpa using h1)
    subst this; cases hu
  · simp only [Value.slice.injEq] at hv
    refine ⟨g, 0, hv.1, hb, blk_lt hg, blk_cell hg (0 + j) u ?_⟩
    rw [← ht, List.getElem?_take] at hu
    split at hu
    · simpa using hu
    · cases hu
theorem own_form {w : World} {base : Nat} {e : TypeId} {n : Nat} {v : Value} {xs : List Value} (h : w.ownsRow base e 1 v n xs) : ∃ A cap, v = .slice A n cap ∧ n ≤ cap ∧ cap ≤ 9223372036854775807 ∧ xs.length = n := by
  have h1 := h.1
  rcases h.2 with ⟨h3, h2⟩ | ⟨g, cap, cur, hv, hb, hg, hc, hm, hs, ht⟩
  · subst h2; exact ⟨none, 0, h3, by omega, by omega, by simpa using h1⟩
  · exact ⟨_, cap, hv, hc, by simpa [maxLen] using hm, by simpa using h1⟩

/- a slice of bytes that reads as a list -/
def RBA (B : Nat) (w : World) (A : Option Addr) (l : List Nat) : Prop := Byt l ∧ Hd B w A (bv l)
def RB (B : Nat) (w : World) (v : Value) (l : List Nat) : Prop := ∃ A c, v = .slice A l.length c ∧ l.length ≤ c ∧ c ≤ 9223372036854775807 ∧ RBA B w A l
theorem RBA.next {B : Nat} {w w' : World} {A : Option Addr} {l : List Nat} (hb : Below w.heap.size w w') (h : RBA B w A l) : RBA B w' A l := ⟨h.1, h.2.next hb⟩
theorem RBA.mono {B B' : Nat} {w : World} {A : Option Addr} {l : List Nat} (h : RBA B w A l) (hB : B' ≤ B) : RBA B' w A l := ⟨h.1, h.2.mono hB⟩
theorem RBA.at_ {B : Nat} {w : World} {A : Option Addr} {l : List Nat} (h : RBA B w A l) {k x : Nat} (hk : l[k]? = some x) :
    ∃ b off, A = some ⟨b, off, none⟩ ∧ b < w.heap.size ∧ w.cell? ⟨b, off + k, none⟩ = some (.int .u8 (x : Int)) ∧ x < 256 := by
  obtain ⟨b, off, e, _, h2, h3⟩ := h.2 k _ (bv_get hk)
  exact ⟨b, off, e, h2, h3, h.1.at_ hk⟩
theorem RB.next {B : Nat} {w w' : World} {v : Value} {l : List Nat} (hb : Below w.heap.size w w') (h : RB B w v l) : RB B w' v l := by
  obtain ⟨A, c, e, h1, h2, h3⟩ := h
  exact ⟨A, c, e, h1, h2, h3.next hb⟩
theorem RB.mono {B B' : Nat} {w : World} {v : Value} {l : List Nat} (h : RB B w v l) (hB : B' ≤ B) : RB B' w v l := by
  obtain ⟨A, c, e, h1, h2, h3⟩ := h
  exact ⟨A, c, e, h1, h2, h3.mono hB⟩
abbrev OB (B : Nat) (w : World) (v : Value) (l : List Nat) : Prop := w.ownsRow B 5 1 v l.length (bv l)
theorem OB.rb {B : Nat} {w : World} {v : Value} {l : List Nat} (h : OB B w v l) (hl : Byt l) : RB B w v l := by
  obtain ⟨A, c, rfl, h1, h2, _⟩ := own_form h
  exact ⟨A, c, rfl, h1, h2, hl, Hd.of_own h⟩
/- a slice of slices of bytes that reads as a list of lists -/
def RMA (B : Nat) (w : World) (A : Option Addr) (m : List (List Nat)) : Prop :=
  ∃ us : List Value, us.length = m.length ∧ Hd B w A us ∧ ∀ (i : Nat) (u : Value) (l : List Nat), us[i]? = some u → m[i]? = some l → RB B w u l
def RM (B : Nat) (w : World) (v : Value) (m : List (List Nat)) : Prop := ∃ A c, v = .slice A m.length c ∧ m.length ≤ c ∧ c ≤ 9223372036854775807 ∧ RMA B w A m
theorem RMA.next {B : Nat} {w w' : World} {A : Option Addr} {m : List (List Nat)} (hb : Below w.heap.size w w') (h : RMA B w A m) : RMA B w' A m := by
  obtain ⟨us, h1, h2, h3⟩ := h
  exact ⟨us, h1, h2.next hb, fun i u l hu hl => (h3 i u l hu hl).next hb⟩
theorem RMA.mono {B B' : Nat} {w : World} {A : Option Addr} {m : List (List Nat)} (h : RMA B w A m) (hB : B' ≤ B) : RMA B' w A m := by
  obtain ⟨us, h1, h2, h3⟩ := h
  exact ⟨us, h1, h2.mono hB, fun i u l hu hl => (h3 i u l hu hl).mono hB⟩
theorem RM.next {B : Nat} {w w' : World} {v : Value} {m : List (List Nat)} (hb : Below w.heap.size w w') (h : RM B w v m) : RM B w' v m := by
  obtain ⟨A, c, e, h1, h2, h3⟩ := h
  exact ⟨A, c, e, h1, h2, h3.next hb⟩
theorem RM.mono {B B' : Nat} {w : World} {v : Value} {m : List (List Nat)} (h : RM B w v m) (hB : B' ≤ B) : RM B' w v m := by
  obtain ⟨A, c, e, h1, h2, h3⟩ := h
  exact ⟨A, c, e, h1, h2, h3.mono hB⟩
theorem RMA.at_ {B : Nat} {w : World} {A : Option Addr} {m : List (List Nat)} (h : RMA B w A m) {i : Nat} {l : List Nat} (hi : m[i]? = some l) :
    ∃ b off Ai ci, A = some ⟨b, off, none⟩ ∧ b < w.heap.size ∧ w.cell? ⟨b, off + i, none⟩ = some (.slice Ai l.length ci) ∧ l.length ≤ ci ∧ ci ≤ 9223372036854775807 ∧ RBA B w Ai l := by
  obtain ⟨us, h1, h2, h3⟩ := h
  have hlt : i < us.length := by rw [h1]; exact (List.getElem?_eq_some_iff.1 hi).1
  have hu : us[i]? = some us[i] := List.getElem?_eq_getElem hlt
  obtain ⟨b, off, e, _, hl, hc⟩ := h2 i _ hu
  obtain ⟨Ai, ci, e', k1, k2, k3⟩ := h3 i _ l hu hi
  exact ⟨b, off, Ai, ci, e, hl, by rw [← e']; exact hc, k1, k2, k3⟩
theorem RMA.byt {B : Nat} {w : World} {A : Option Addr} {m : List (List Nat)} (h : RMA B w A m) : ∀ l ∈ m, Byt l := fun l hl => by
  obtain ⟨i, hi, rfl⟩ := List.mem_iff_getElem.1 hl
  obtain ⟨_, _, _, _, _, _, _, _, _, h'⟩ := h.at_ (List.getElem?_eq_getElem hi)
  exact h'.1
theorem RMA.nil (B : Nat) (w : World) (A : Option Addr) : RMA B w A [] := ⟨[], rfl, Hd.nil _ _ _, fun i u l hu => by simp at hu⟩
theorem get_some {α : Type} {m : List α} {i : Nat} (h : i < m.length) : ∃ l, m[i]? = some l := ⟨m[i], List.getElem?_eq_getElem h⟩
theorem get_lt {α : Type} {m : List α} {i : Nat} {l : α} (h : m[i]? = some l) : i < m.length := (List.getElem?_eq_some_iff.1 h).1
/- the value of a stripe -/
abbrev Sv (D M : Int) (v : Value) : Value := .agg #[.int .i64 D, .int .i64 M, v]
end Go.Proofs.Ytmpmeeacdllomaa
