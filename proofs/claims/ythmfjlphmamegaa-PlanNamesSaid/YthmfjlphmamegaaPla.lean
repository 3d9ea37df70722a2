/- A plan that comes in as an argument: its slots and rules as lists. -/
import Derived.Test.YthmfjlphmamegaaPlj
import Derived.Deep.Slices
import Derived.Deep.Fields
import Derived.ChangeSame
import Derived.ChangeArms
import Derived.Lib.SmallJoins
namespace Go.Proofs.Ythmfjlphmamegaa
open Go.ChangeShapes Go.WideShapes Go.ChangeAt Go.RowKit Go.Deep Go.Joins
set_option linter.unusedVariables false

instance : Inhabited Slt := ⟨d0⟩
instance : Inhabited Rul := ⟨⟨0, .empty, .empty, 0, 0, .empty⟩⟩
section
variable {H : Type} {enc : TypeId × Value → H} {P : Program} {w : World} {base : Nat} {spare : Nat → Bool} {held : Bool}
/- a slice of structs with one cell a field: each field's cell, and how it reads -/
theorem open_rows {t e : TypeId} {fs : Array Field} {fuel : Nat} {cs : List Value} {x : DataW H × List MemPlace} (ht : P.underlying t = some (.slice e)) (he : P.underlying e = some (.struct fs))
    (hone : oneCellFields P fs = true) (hC : P.cellsOf e = fs.size) (h : DataW.trod enc P w base spare held fuel t cs = some x) :
    cs = [.slice none 0 0] ∨ ∃ (a : Addr) (len cap : Nat), cs = [.slice (some a) len cap] ∧ len ≤ cap ∧ cap ≤ maxLen ∧
      ∀ i, i < len → ∃ n : Nat, ∀ (j : Nat) (f : Field), fs[j]? = some f → ∃ (v : Value) (y : DataW H × List MemPlace), w.cell? (a.add (i * fs.size + j)) = some v ∧ DataW.trod enc P w base spare held n f.type [v] = some y := by
  rcases open_slice ht h with h0 | ⟨a, len, cap, m, n, D, Pl, hcs, hb, hl, hm, hmm, hx, hi⟩
  · exact .inl h0.1
  · refine .inr ⟨a, len, cap, hcs, hl, hm, fun i him => ?_⟩
    have hlm : len ≤ m := by rw [hmm]; split <;> omega
    obtain ⟨cs', hc, ht'⟩ := hi i (by omega)
    rw [hC] at hc
    obtain ⟨ys, n', hn', hy, hlen, hyl, hf⟩ := DataW.trod_struct he ht'
    obtain ⟨_, hcl, hat⟩ := World.cells?_some hc
    refine ⟨n', fun j f hj => ?_⟩
    obtain ⟨ho, hk⟩ := hone_of hone j f hj
    have hjl : j < fs.size := (Array.getElem?_eq_some_iff.1 hj).1
    have hcell := hat j hjl
    have hv : cs'[j]? = some (cs'[j]'(by omega)) := List.getElem?_eq_getElem (by omega)
    have h1 := hf j f hj
    rw [ho, hk] at h1
    have hone' : (cs'.drop j).take 1 = [cs'[j]'(by omega)] := by
      rw [List.drop_eq_getElem_cons (by omega)]; rfl
    rw [hone'] at h1
    have hys : ys[j]? = some (ys[j]'(by omega)) := List.getElem?_eq_getElem (by omega)
    exact ⟨_, _, by rw [← Go.Deep.add_add, hcell, hv], h1.trans hys⟩
end
/- the address of a slice whose first cell is there is plain -/
theorem plain_addr {w : World} {a : Addr} {v : Value} (h : w.cell? a = some v) : a = ⟨a.block, a.off, none⟩ := by
  rcases a with ⟨b, o, s⟩
  cases s with
  | none => rfl
  | some s =>
    unfold World.cell? at h
    split at h
    · simp at h
    · cases h
theorem add_plain (b o j : Nat) : (⟨b, o, none⟩ : Addr).add j = ⟨b, o + j, none⟩ := by
  unfold Addr.add; split
  · rename_i h; subst h; rfl
  · rfl
section
variable {H : Type} {enc : TypeId × Value → H} {w : World} {base : Nat} {spare : Nat → Bool} {held : Bool}
theorem open_slots {fuel : Nat} {cs : List Value} {x : DataW H × List MemPlace} (h : DataW.trod enc Try.prog w base spare held fuel 22 cs = some x) :
    ∃ (a : Option Addr) (l : List Slt) (cap : Nat), cs = [.slice a l.length cap] ∧ l.length ≤ cap ∧ cap ≤ 9223372036854775807 ∧ SlotsIn w a l := by
  rcases open_rows Try.underlying22 Try.underlying47 (by kernel_rfl) (by kernel_rfl) h with rfl | ⟨a, len, cap, rfl, h1, h2, h3⟩
  · exact ⟨none, [], 0, rfl, by simp, by omega, fun i hi => by simp at hi⟩
  · have key : ∀ i, i < len → ∃ s : Slt, ∃ b off, some a = some ⟨b, off, none⟩ ∧ b < w.heap.size ∧ SlotAt w b off i s := by
      intro i hi
      obtain ⟨n0, g0⟩ := h3 0 (by omega)
      obtain ⟨v0, y0, hc0, _⟩ := g0 0 _ rfl
      have ha : a = ⟨a.block, a.off, none⟩ := plain_addr (by simpa [Addr.add] using hc0)
      obtain ⟨n, g⟩ := h3 i hi
      obtain ⟨u0, z0, c0, t0⟩ := g 0 _ rfl
      obtain ⟨u1, z1, c1, t1⟩ := g 1 _ rfl
      obtain ⟨u2, z2, c2, t2⟩ := g 2 _ rfl
      obtain ⟨u3, z3, c3, t3⟩ := g 3 _ rfl
      obtain ⟨s0, e0, _, _⟩ := DataW.trod_string Try.underlying9 t0
      obtain ⟨s1, e1, _, _⟩ := DataW.trod_int Try.underlying3 t1
      obtain ⟨s2, e2, _, _⟩ := DataW.trod_int Try.underlying3 t2
      obtain ⟨s3, e3, _, _⟩ := DataW.trod_int Try.underlying3 t3
      simp only [List.cons.injEq, and_true] at e0 e1 e2 e3
      subst e0 e1 e2 e3
      have hlt := World.block_lt_of_cell? w (a.add (i * 4 + 0)) c0
      rw [ha, add_plain] at c0 c1 c2 c3 hlt
      refine ⟨⟨s0, s1, s2, s3⟩, a.block, a.off, by rw [← ha], hlt, by simpa using c0, ?_, ?_, ?_⟩
      · simpa [Nat.add_assoc] using c1
      · simpa [Nat.add_assoc] using c2
      · simpa [Nat.add_assoc] using c3
    obtain ⟨f, hf⟩ := choose_lt key
    refine ⟨some a, (List.range len).map f, cap, by simp, by simpa using h1, by simpa [maxLen] using h2, fun i hi => ?_⟩
    have hi' : i < len := by simpa using hi
    obtain ⟨b, off, e, hb, hs⟩ := hf i hi'
    exact ⟨b, off, e, hb, by simpa using hs⟩
theorem open_rules {fuel : Nat} {cs : List Value} {x : DataW H × List MemPlace} (h : DataW.trod enc Try.prog w base spare held fuel 23 cs = some x) :
    ∃ (a : Option Addr) (l : List Rul) (cap : Nat), cs = [.slice a l.length cap] ∧ l.length ≤ cap ∧ cap ≤ 9223372036854775807 ∧ RulesIn w a l := by
  rcases open_rows Try.underlying23 Try.underlying61 (by kernel_rfl) (by kernel_rfl) h with rfl | ⟨a, len, cap, rfl, h1, h2, h3⟩
  · exact ⟨none, [], 0, rfl, by simp, by omega, fun i hi => by simp at hi⟩
  · have key : ∀ i, i < len → ∃ s : Rul, ∃ b off, some a = some ⟨b, off, none⟩ ∧ b < w.heap.size ∧ RuleAt w b off i s := by
      intro i hi
      obtain ⟨n0, g0⟩ := h3 0 (by omega)
      obtain ⟨v0, y0, hc0, _⟩ := g0 0 _ rfl
      have ha : a = ⟨a.block, a.off, none⟩ := plain_addr (by simpa [Addr.add] using hc0)
      obtain ⟨n, g⟩ := h3 i hi
      obtain ⟨u0, z0, c0, t0⟩ := g 0 _ rfl
      obtain ⟨u1, z1, c1, t1⟩ := g 1 _ rfl
      obtain ⟨u2, z2, c2, t2⟩ := g 2 _ rfl
      obtain ⟨u3, z3, c3, t3⟩ := g 3 _ rfl
      obtain ⟨u4, z4, c4, t4⟩ := g 4 _ rfl
      obtain ⟨u5, z5, c5, t5⟩ := g 5 _ rfl
      obtain ⟨s0, e0, _, _⟩ := DataW.trod_int Try.underlying5 t0
      obtain ⟨s1, e1, _, _⟩ := DataW.trod_string Try.underlying9 t1
      obtain ⟨s2, e2, _, _⟩ := DataW.trod_string Try.underlying9 t2
      obtain ⟨s3, e3, _, _⟩ := DataW.trod_int Try.underlying3 t3
      obtain ⟨s4, e4, _, _⟩ := DataW.trod_int Try.underlying3 t4
      obtain ⟨s5, e5, _, _⟩ := DataW.trod_string Try.underlying9 t5
      simp only [List.cons.injEq, and_true] at e0 e1 e2 e3 e4 e5
      subst e0 e1 e2 e3 e4 e5
      have hlt := World.block_lt_of_cell? w (a.add (i * 6 + 0)) c0
      rw [ha, add_plain] at c0 c1 c2 c3 c4 c5 hlt
      refine ⟨⟨s0, s1, s2, s3, s4, s5⟩, a.block, a.off, by rw [← ha], hlt, by simpa using c0, ?_, ?_, ?_, ?_, ?_⟩
      · simpa [Nat.add_assoc] using c1
      · simpa [Nat.add_assoc] using c2
      · simpa [Nat.add_assoc] using c3
      · simpa [Nat.add_assoc] using c4
      · simpa [Nat.add_assoc] using c5
    obtain ⟨f, hf⟩ := choose_lt key
    refine ⟨some a, (List.range len).map f, cap, by simp, by simpa using h1, by simpa [maxLen] using h2, fun i hi => ?_⟩
    have hi' : i < len := by simpa using hi
    obtain ⟨b, off, e, hb, hs⟩ := hf i hi'
    exact ⟨b, off, e, hb, by simpa using hs⟩
end
end Go.Proofs.Ythmfjlphmamegaa
