/- Several texts in one. -/
import Derived.Test.YtbbnkclajpaghaaGreatDoorMF04
set_option linter.unusedVariables false
set_option linter.unusedSimpArgs false
namespace Go.Proofs.YtbbnkclajpaghaaGreatDoor
open Go Go.RowKit
section
variable {P : Program} {ops : Array Oper} {Q : Exit → Act → World → Prop} {md : Region.Mode} {S : Nat → World → Prop}
def readyB (md : Region.Mode) (ops : Array Oper) (done : Array Bool) (i : Nat) : Bool := !(done.getD i true) && match ops[i]? with
 | some o => o.after.all fun e => !(Region.binds md e) || done.getD e.on false
 | none => false
theorem readyB_mem {done : Array Bool} {i : Nat} (h : readyB md ops done i = true) : i ∈ Region.ready md ops done := by
 unfold readyB at h
 rw [Bool.and_eq_true, Bool.not_eq_true'] at h
 obtain ⟨h1, h2⟩ := h
 rw [mem_ready]
 refine ⟨h1, ?_⟩
 cases ho : ops[i]? with
 | none => rw [ho] at h2; cases h2
 | some o =>
  rw [ho] at h2
  refine ⟨o, rfl, fun e he hb => ?_⟩
  simp only [Array.all_eq_true_iff_forall_mem] at h2
  have := h2 e he
  rw [hb] at this
  simpa using this
def edgeB (md : Region.Mode) (o : Oper) (i : Nat) : Bool := o.after.any fun e => Region.binds md e && e.on == i
def freeAll (md : Region.Mode) (ops : Array Oper) : Bool := (List.range ops.size).all fun i => match ops[i]? with
 | none => true
 | some oi => (List.range ops.size).all fun j => match ops[j]? with
  | none => true
  | some oj => j == i || (oi.apart ops oj || (edgeB md oj i || edgeB md oi j))
theorem edge_no {o : Oper} {i : Nat} (h : ∀ e ∈ o.after, Region.binds md e = true → e.on ≠ i) : edgeB md o i = false := by
 unfold edgeB
 rw [Bool.eq_false_iff]
 intro ha
 obtain ⟨k, hk, hb⟩ := Array.any_eq_true.1 ha
 rw [Bool.and_eq_true, beq_iff_eq] at hb
 exact h _ (Array.getElem_mem hk) hb.1 hb.2
structure HCtx (md : Region.Mode) (ops : Array Oper) (done : Array Bool) : Prop where
 ns : Region.noSelect ops = true
 fa : freeAll md ops = true
 sh : Shutd md ops done
theorem HCtx.free {done : Array Bool} (h : HCtx md ops done) {i : Nat} {oi : Oper} (hi : ops[i]? = some oi) (hr : i ∈ Region.ready md ops done) (j : Nat) (oj : Oper) (hj : ops[j]? = some oj) (hne : j ≠ i) (hun : done.getD j true = false) (hno : ∀ e ∈ oj.after, Region.binds md e = true → e.on ≠ i) : oi.apart ops oj = true := by
 have h1 := h.fa
 unfold freeAll at h1
 have h2 := List.all_eq_true.1 h1 i (List.mem_range.2 (Array.getElem?_eq_some_iff.1 hi).1)
 rw [hi] at h2
 have h3 := List.all_eq_true.1 h2 j (List.mem_range.2 (Array.getElem?_eq_some_iff.1 hj).1)
 rw [hj] at h3
 simp only [edge_no hno, Bool.false_or, Bool.or_eq_true, beq_iff_eq, hne, false_or] at h3
 rcases h3 with h3 | h3
 ·exact h3
 ·exfalso
  obtain ⟨_, o', ho', hall⟩ := mem_ready.1 hr
  have : o' = oi := Option.some.inj (ho'.symm.trans hi)
  subst this
  rw [edge_no (fun e he hb hon => by
   have := hall e he hb
   rw [hon] at this
   have h9 := getD_both hun
   rw [this] at h9; cases h9)] at h3
  cases h3
theorem HCtx.set {done : Array Bool} (h : HCtx md ops done) {i : Nat} (hr : i ∈ Region.ready md ops done) : HCtx md ops (done.setIfInBounds i true) := ⟨h.ns, h.fa, shut_set h.sh hr⟩
theorem take_H {oi : Oper} {f : Nat} {done : Array Bool} {a : Act} {w : World} (i : Nat) (v : Value) (d : Option Nat) (hg : ∀ k w X, S k w → Below w.heap.size w X → S k X) (hc : HCtx md ops done) (hi : ops[i]? = some oi)
  (hr : readyB md ops done i = true) (hd : oi.dst = d) (hQ : ∀ c a w, Q (.panic c) (a.put oi.dst v) w → Q (.panic c) a w) (hy : YieldsG P ops (S i) oi v a) (hS : S i w)
  (h : HCtx md ops (done.setIfInBounds i true) → wpAnyG P md ops Q S f (done.setIfInBounds i true) (a.put d v) w) : wpAnyG P md ops Q S (f + 1) done a w :=
 wpAnyG_first hi (Region.noSelect_spec hc.ns) hQ hg f done a w hc.sh (hc.free hi (readyB_mem hr)) (readyB_mem hr) hy hS (by rw [hd]; exact h (hc.set (readyB_mem hr)))
theorem shut_start (n : Nat) : Shutd md ops (Array.replicate n false) := fun m om _ hm => by
 rw [Array.getD_eq_getD_getElem?, Array.getElem?_replicate] at hm
 split at hm <;> cases hm
theorem region_H {id : Nat} {a : Act} {w : World} (hm : P.follows .mixedOrders = true) (hns : Region.noSelect ops = true) (hfa : freeAll .any ops = true)
  (h : HCtx .any ops (Array.replicate ops.size false) → wpAnyG P .any ops Q S ops.size (Array.replicate ops.size false) a w.drew) : (Code.region id ops true).wp P Q a w :=
 region_G hm (h ⟨hns, hfa, shut_start _⟩)
end
end Go.Proofs.YtbbnkclajpaghaaGreatDoor
