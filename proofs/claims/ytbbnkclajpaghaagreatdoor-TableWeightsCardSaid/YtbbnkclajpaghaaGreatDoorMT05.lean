/- Several texts in one. -/
import Derived.StillTail
import Derived.Deep.RegionHeld3
import Derived.Test.YtbbnkclajpaghaaGreatDoorMT00
import Derived.Test.YtbbnkclajpaghaaGreatDoorMT01
import Derived.Test.YtbbnkclajpaghaaGreatDoorMT04
namespace Go.Proofs.YtbbnkclajpaghaaGreatDoor
open Go Go.RowKit
set_option linter.unusedVariables false
section
variable {P : Program} {ops : Array Oper} {Q : Exit → Act → World → Prop} {md : Region.Mode} {S : Nat → World → Prop}
theorem below_go {w X Y : World} (h : Below w.heap.size w X) (h' : Below X.heap.size X Y) : Below w.heap.size w Y := h.trans (h'.mono h.size)
def Shutd (md : Region.Mode) (ops : Array Oper) (done : Array Bool) : Prop := ∀ (m : Nat) (om : Oper), ops[m]? = some om → done.getD m false = true → ∀ e ∈ om.after, Region.binds md e = true → done.getD e.on false = true
def waitsT (md : Region.Mode) (ops : Array Oper) : Nat → Nat → Nat → Bool
 | 0, _, _ => false
 | f + 1, j, k => Region.waitsFor md ops j k || (List.range ops.size).any fun m => Region.waitsFor md ops j m && waitsT md ops f m k
theorem shut_T {done : Array Bool} (hc : Shutd md ops done) : ∀ (f j k : Nat), waitsT md ops f j k = true → done.getD j false = true → done.getD k false = true
 | 0, _, _, h, _ => by cases h
 | f + 1, j, k, h, hj => by
  unfold waitsT at h
  rw [Bool.or_eq_true, List.any_eq_true] at h
  rcases h with h | ⟨m, _, h⟩
  ·obtain ⟨oj, hoj, e, he, hb, hon⟩ := Region.waitsFor_spec h
   rw [← hon]; exact hc j oj hoj hj e he hb
  ·rw [Bool.and_eq_true] at h
   obtain ⟨oj, hoj, e, he, hb, hon⟩ := Region.waitsFor_spec h.1
   exact shut_T hc f m k h.2 (by rw [← hon]; exact hc j oj hoj hj e he hb)
theorem ready_T {done : Array Bool} (hc : Shutd md ops done) {f j k : Nat} (hj : j ∈ Region.ready md ops done) (h : waitsT md ops f j k = true) : done.getD k false = true := by
 obtain ⟨_, o', ho', hall⟩ := mem_ready.1 hj
 cases f with
 | zero => cases h
 | succ f =>
  unfold waitsT at h
  rw [Bool.or_eq_true, List.any_eq_true] at h
  rcases h with h | ⟨m, _, h⟩
  ·obtain ⟨oj, hoj, e, he, hb, hon⟩ := Region.waitsFor_spec h
   have : o' = oj := Option.some.inj (ho'.symm.trans hoj)
   subst this
   rw [← hon]; exact hall e he hb
  ·rw [Bool.and_eq_true] at h
   obtain ⟨oj, hoj, e, he, hb, hon⟩ := Region.waitsFor_spec h.1
   have : o' = oj := Option.some.inj (ho'.symm.trans hoj)
   subst this
   exact shut_T hc f m k h.2 (by rw [← hon]; exact hall e he hb)
theorem shut_set {done : Array Bool} (hc : Shutd md ops done) {i : Nat} (hi : i ∈ Region.ready md ops done) : Shutd md ops (done.setIfInBounds i true) := by
 intro m om ho hm e he hb
 refine getD_set_true ?_
 by_cases h : i = m
 ·subst h
  obtain ⟨_, o', ho', hall⟩ := mem_ready.1 hi
  have : o' = om := Option.some.inj (ho'.symm.trans ho)
  subst this
  exact hall e he hb
 ·rw [getD_set_ne false h] at hm
  exact hc m om ho hm e he hb
abbrev Keeps (md : Region.Mode) (ops : Array Oper) (S : Nat → World → Prop) (i : Nat) (X W : World) : Prop := ∀ k, waitsT md ops ops.size i k = false → S k X → S k W
def wpAnyG (P : Program) (md : Region.Mode) (ops : Array Oper) (Q : Exit → Act → World → Prop) (S : Nat → World → Prop) : Nat → Array Bool → Act → World → Prop
 | 0, done, a, w => ∀ X : World, Below w.heap.size w X → Region.ready md ops done = [] ∧ Q .normal a X
 | f + 1, done, a, w => ∀ X : World, Below w.heap.size w X → (Region.ready md ops done = [] → Q .normal a X) ∧
  ∀ i ∈ Region.ready md ops done, wpOp P ops Q i (fun a' w' => Keeps md ops S i X w' ∧ wpAnyG P md ops Q S f (done.setIfInBounds i true) a' w') a X
theorem wpAny_of_G : ∀ (f : Nat) (done : Array Bool) (a : Act) (w : World), wpAnyG P md ops Q S f done a w → wpAny P md ops Q f done a w
 | 0, _, _, w, h => h w (Below.refl _ _)
 | f + 1, _, _, w, h => ⟨(h w (Below.refl _ _)).1, fun i hi => wpOp_mono (fun a' w' h' => wpAny_of_G f _ a' w' h'.2) ((h w (Below.refl _ _)).2 i hi)⟩
theorem wpAnyG_grow : ∀ (f : Nat) (done : Array Bool) (a : Act) (w X : World), Below w.heap.size w X → wpAnyG P md ops Q S f done a w → wpAnyG P md ops Q S f done a X
 | 0, _, _, _, _, hb, h => fun Y hY => h Y (below_go hb hY)
 | _ + 1, _, _, _, _, hb, h => fun Y hY => h Y (below_go hb hY)
def YieldsG (P : Program) (ops : Array Oper) (S : World → Prop) (o : Oper) (v : Value) (a : Act) : Prop :=
 (Region.wanted o (yielded ops a.tmps) = true ∧ ∀ w, S w → (execOp a.eval o).run P w = .ok (.value v) w ∨ ∃ f args, (execOp a.eval o).run P w = .ok (.enter f args) w ∧ Calls P f args w fun e w' => e = .returned v ∧ Below w.heap.size w w') ∨
 (Region.wanted o (yielded ops a.tmps) = false ∧ v = undef)
theorem YieldsIf.toG {S : World → Prop} {o : Oper} {v : Value} {a : Act} (h : YieldsIf P ops S o v a) : YieldsG P ops S o v a :=
 h.imp (fun ⟨hw, hv⟩ => ⟨hw, fun w hs => .inl (hv w hs)⟩) id
theorem yieldsG_call {S : World → Prop} {o : Oper} {v : Value} {a : Act} (f : Nat) (args : Array Value) (hw : Region.wanted o (yielded ops a.tmps) = true) (hr : ∀ w, S w → (execOp a.eval o).run P w = .ok (.enter f args) w)
  (hc : ∀ w, S w → Calls P f args w fun e w' => e = .returned v ∧ Below w.heap.size w w') : YieldsG P ops S o v a := .inl ⟨hw, fun w hs => .inr ⟨f, args, hr w hs, hc w hs⟩⟩
theorem YieldsG.wpOp {S : World → Prop} {i : Nat} {o : Oper} {v : Value} {a : Act} (hi : ops[i]? = some o) (hy : YieldsG P ops S o v a)
  {K : Act → World → Prop} {w : World} (hS : S w) (h : ∀ X, Below w.heap.size w X → K (a.put o.dst v) X) : wpOp P ops Q i K a w := by
 unfold Go.wpOp
 simp only [hi]
 rcases hy with ⟨hw, hv⟩ | ⟨hw, rfl⟩
 ·simp only [hw, if_true]
  rcases hv w hS with hv | ⟨f, args, hv, hc⟩
  ·simp only [Oper.wp, hv, Oper.upon]; exact .inl (h w (Below.refl _ _))
  ·simp only [Oper.wp, hv, Oper.upon]
   refine .inl (hc.mono ?_)
   rintro e w' ⟨rfl, hb⟩
   exact h w' hb
 ·simp only [hw, Bool.false_eq_true, if_false]; exact h w (Below.refl _ _)
theorem YieldsG.of_same {S : World → Prop} {o : Oper} {v : Value} {a a' : Act} (hy : YieldsG P ops S o v a) (he : execOp a'.eval o = execOp a.eval o)
  (hw : Region.wanted o (yielded ops a'.tmps) = Region.wanted o (yielded ops a.tmps)) : YieldsG P ops S o v a' := by
 unfold YieldsG at *
 rw [he, hw]
 exact hy
theorem wpOp_putG {S : World → Prop} {j : Nat} {oi oj : Oper} {v : Value} (hj : ops[j]? = some oj) (hap : oi.apart ops oj = true)
  (hsi : ∀ cs b, oi.op ≠ .select cs b) (hsj : ∀ cs b, oj.op ≠ .select cs b)
  (hQ : ∀ c a w, Q (.panic c) (a.put oi.dst v) w → Q (.panic c) a w) {K : Act → World → Prop} {a : Act} {w : World}
  (hy : YieldsG P ops S oi v a) (h : wpOp P ops Q j K (a.put oi.dst v) w) :
  wpOp P ops Q j (fun a' w' => YieldsG P ops S oi v a' ∧ K (a'.put oi.dst v) w') a w := by
 obtain ⟨h1, h2, h3⟩ := Oper.apart_spec hap
 have keep : ∀ (a : Act), YieldsG P ops S oi v a → ∀ u, YieldsG P ops S oi v (a.put oj.dst u) := fun a hy u =>
  hy.of_same (execOp_put oi hsi a oj.dst u h3) (wanted_put oi a oj.dst u h3)
 have keepD : ∀ d, YieldsG P ops S oi v { a with defers := d :: a.defers } := fun d => hy.of_same rfl rfl
 unfold wpOp at *
 simp only [hj] at *
 rw [wanted_put oj a oi.dst v h1] at h
 split
 ·rename_i hw
  simp only [hw, if_true] at h
  rcases h with h | ⟨hasks, hlets⟩
  case inr => exact .inr ⟨by unfold Oper.asks at *; rw [execOp_put oj hsj a oi.dst v h1] at hasks; exact hasks, hlets⟩
  refine .inl ?_
  unfold Oper.wp at *
  rw [execOp_put oj hsj a oi.dst v h1] at h
  generalize (execOp a.eval oj).run P w = r at *
  cases r with
  | ok n w' =>
   cases n <;> simp only [Oper.upon] at h ⊢
   case value u => exact ⟨keep a hy u, by rw [← Act.put_comm a v u h2]; exact h⟩
   case skip => exact ⟨keep a hy _, by rw [← Act.put_comm a v undef h2]; exact h⟩
   case defer d =>
    refine ⟨keep _ (keepD d) _, ?_⟩
    rw [← Act.put_comm _ v undef h2, ← Act.put_defers]
    exact h
   case enter f args =>
    refine Calls.mono h fun e w'' he => ?_
    cases e with
    | returned u => exact ⟨keep a hy u, by rw [← Act.put_comm a v u h2]; exact he⟩
    | panicked c => exact hQ _ _ _ he
    | outgrown => exact he
   case row row args => exact Rows.mono h fun u w'' he => ⟨keep a hy u, by rw [← Act.put_comm a v u h2]; exact he⟩
  | halt x w' =>
   cases x <;> simp only [Oper.upon] at h ⊢
   case panic u => exact hQ _ _ _ h
 ·rename_i hw
  simp only [hw] at h
  exact ⟨keep a hy _, by rw [← Act.put_comm a v undef h2]; exact h⟩
theorem wpAnyG_first {i : Nat} {oi : Oper} {v : Value} (hi : ops[i]? = some oi) (hsel : ∀ (j : Nat) (o : Oper) cs b, ops[j]? = some o → o.op ≠ .select cs b)
  (hQ : ∀ c a w, Q (.panic c) (a.put oi.dst v) w → Q (.panic c) a w) (hg : ∀ k w X, S k w → Below w.heap.size w X → S k X) :
  ∀ (f : Nat) (done : Array Bool) (a : Act) (w : World), Shutd md ops done →
   (∀ j oj, ops[j]? = some oj → j ≠ i → done.getD j true = false → (∀ e ∈ oj.after, Region.binds md e = true → e.on ≠ i) → oi.apart ops oj = true) →
   i ∈ Region.ready md ops done → YieldsG P ops (S i) oi v a → S i w →
   wpAnyG P md ops Q S f (done.setIfInBounds i true) (a.put oi.dst v) w → wpAnyG P md ops Q S (f + 1) done a w := by
 intro f
 induction f with
 | zero =>
  intro done a w hsh _ hr hy hS H X hX
  refine ⟨fun h => (by rw [h] at hr; cases hr), fun j hj => ?_⟩
  by_cases e : j = i
  ·subst e; exact hy.wpOp hi (hg _ _ _ hS hX) fun Y hY => ⟨fun k _ hk => hg k _ _ hk hY, fun Z hZ => H Z (below_go (below_go hX hY) hZ)⟩
  ·have := ready_mono hj e
   rw [(H X hX).1] at this
   cases this
 | succ f ih =>
  intro done a w hsh hfree hr hy hS H X hX
  refine ⟨fun h => (by rw [h] at hr; cases hr), fun j hj => ?_⟩
  by_cases e : j = i
  ·subst e; exact hy.wpOp hi (hg _ _ _ hS hX) fun Y hY => ⟨fun k _ hk => hg k _ _ hk hY, wpAnyG_grow _ _ _ _ _ (below_go hX hY) H⟩
  ·have h1 := (H X hX).2 j (ready_mono hj e)
   obtain ⟨hjun, oj, hoj, _⟩ := mem_ready.1 hj
   have nw : waitsT md ops ops.size j i = false := by
    cases h : waitsT md ops ops.size j i with
    | false => rfl
    | true =>
     have h0 := ready_T hsh hj h
     have h2 := getD_both (mem_ready.1 hr).1
     rw [h0] at h2
     cases h2
   have h2 := wpOp_putG hoj (hfree j oj hoj e hjun (edge_ne hoj hj hr)) (fun cs b => hsel i oi cs b hi) (fun cs b => hsel j oj cs b hoj) hQ hy h1
   have hfree' : ∀ k ok, ops[k]? = some ok → k ≠ i → (done.setIfInBounds j true).getD k true = false → (∀ e ∈ ok.after, Region.binds md e = true → e.on ≠ i) → oi.apart ops ok = true := fun k ok hk hki hun hno => by
    refine hfree k ok hk hki ?_ hno
    by_cases hjk : j = k
    ·subst hjk; exact hjun
    ·rw [getD_set_ne true hjk] at hun; exact hun
   have hSX := hg _ _ _ hS hX
   refine wpOp_mono (fun a' w' h3 => ⟨h3.2.1, ?_⟩) h2
   have r2 := ready_mono hr (Ne.symm e)
   refine ih (done.setIfInBounds j true) a' w' (shut_set hsh hj) hfree' r2 h3.1 (h3.2.1 i nw hSX) ?_
   rw [Array.setIfInBounds_comm _ _ e]
   exact h3.2.2
def shutB (md : Region.Mode) (ops : Array Oper) (done : Array Bool) : Bool := (List.range ops.size).all fun m => match ops[m]? with
 | none => true
 | some om => !(done.getD m false) || om.after.all fun e => !(Region.binds md e) || done.getD e.on false
theorem shutB_spec {done : Array Bool} (h : shutB md ops done = true) : Shutd md ops done := by
 intro m om ho hm e he hb
 unfold shutB at h
 have h1 := List.all_eq_true.1 h m (List.mem_range.2 (Array.getElem?_eq_some_iff.1 ho).1)
 rw [ho] at h1
 simp only [hm, Bool.not_true, Bool.false_or, Array.all_eq_true_iff_forall_mem] at h1
 have h2 := h1 e he
 rw [hb] at h2
 simpa using h2
theorem take_G {oi : Oper} {f : Nat} {done : Array Bool} {a : Act} {w : World} (i : Nat) (v : Value) (d : Option Nat) (hg : ∀ k w X, S k w → Below w.heap.size w X → S k X) (hsh : shutB md ops done = true) (hi : ops[i]? = some oi) (hs : Region.noSelect ops = true) (hf : Region.free md ops done i = true)
  (hr : (Region.ready md ops done).contains i = true) (hd : oi.dst = d) (hQ : ∀ c a w, Q (.panic c) (a.put oi.dst v) w → Q (.panic c) a w) (hy : YieldsG P ops (S i) oi v a) (hS : S i w)
  (h : wpAnyG P md ops Q S f (done.setIfInBounds i true) (a.put d v) w) : wpAnyG P md ops Q S (f + 1) done a w :=
 wpAnyG_first hi (Region.noSelect_spec hs) hQ hg f done a w (shutB_spec hsh) (Region.free_spec hi hf) (by simpa using hr) hy hS (by rw [hd]; exact h)
theorem tG {oi : Oper} {f : Nat} {done : Array Bool} {a : Act} {w : World} (i : Nat) (v : Value) (d : Option Nat) (hg : ∀ k w X, S k w → Below w.heap.size w X → S k X) (hi : ops[i]? = some oi) (hy : YieldsG P ops (S i) oi v a) (hS : S i w)
 (h : wpAnyG P md ops Q S f (done.setIfInBounds i true) (a.put d v) w) (hsh : shutB md ops done = true := by kernel_rfl) (hs : Region.noSelect ops = true := by kernel_rfl) (hf : Region.free md ops done i = true := by kernel_rfl)
 (hr : (Region.ready md ops done).contains i = true := by kernel_rfl) (hd : oi.dst = d := by rfl) (hQ : ∀ c a w, Q (.panic c) (a.put oi.dst v) w → Q (.panic c) a w := by exact fun _ _ _ h => h) : wpAnyG P md ops Q S (f + 1) done a w :=
 take_G i v d hg hsh hi hs hf hr hd hQ hy hS h
theorem only_G {o : Oper} {f : Nat} {done : Array Bool} {a : Act} {w : World} (i : Nat) (hr : Region.ready md ops done = [i]) (ho : ops[i]? = some o)
  (h : ∀ X : World, Below w.heap.size w X → ∀ K' : Act → World → Prop, Shut (∀ a' w', Keeps md ops S i X w' → wpAnyG P md ops Q S f (done.setIfInBounds i true) a' w' → K' a' w') → if Region.wanted o (yielded ops a.tmps) = true then Oper.wp P o a X K' Q else K' (a.put o.dst undef) X) :
  wpAnyG P md ops Q S (f + 1) done a w := fun X hX =>
 ⟨fun h0 => (by rw [hr] at h0; cases h0), fun j hj => by
  rw [hr] at hj
  have e : j = i := by simpa using hj
  subst e
  exact wpOp_step ho (fun K' hK => h X hX K' (fun a' w' h1 h2 => hK a' w' ⟨h1, h2⟩))⟩
theorem done_G {done : Array Bool} {a : Act} {w : World} (hr : Region.ready md ops done = []) (h : ∀ X : World, Below w.heap.size w X → Q .normal a X) : ∀ f, wpAnyG P md ops Q S f done a w
 | 0 => fun X hX => ⟨hr, h X hX⟩
 | _ + 1 => fun X hX => ⟨fun _ => h X hX, by rw [hr]; simp⟩
theorem region_G {id : Nat} {a : Act} {w : World} (hm : P.follows .mixedOrders = true) (h : wpAnyG P .any ops Q S ops.size (Array.replicate ops.size false) a w.drew) : (Code.region id ops true).wp P Q a w :=
 wp_region_any hm (wpAny_of_G _ _ _ _ h)
end
def GK (L : List (Nat × Nat × Obj)) (k : Nat) (X : World) : Prop := ∀ p ∈ L, p.1 = k → X.heap[p.2.1]? = some p.2.2
theorem GK.grow (L : List (Nat × Nat × Obj)) : ∀ k (w X : World), GK L k w → Below w.heap.size w X → GK L k X := fun k w X h hb p hp e => blk_next hb (h p hp e)
theorem GK.drop {L : List (Nat × Nat × Obj)} {k : Nat} {Y : World} (h : ∀ p ∈ L, p.1 ≠ k) : GK L k Y := fun p hp e => absurd e (h p hp)
theorem GK.drew {L : List (Nat × Nat × Obj)} {k : Nat} {w : World} (h : GK L k w) : GK L k w.drew := fun p hp e => h p hp e
theorem GK.set {L : List (Nat × Nat × Obj)} {k b off : Nat} {X : World} {v : Value} (h : GK L k X) (hn : ∀ p ∈ L, p.1 = k → p.2.1 ≠ b) : GK L k (X.setCell ⟨b, off, none⟩ v) := fun p hp e => blk_set_other (h p hp e) (fun hh => hn p hp e hh.symm) _ _
theorem GK.alloc {L : List (Nat × Nat × Obj)} {k : Nat} {X : World} (h : GK L k X) (o : Obj) : GK L k (X.alloc o) := fun p hp e => blk_alloc (h p hp e) o
end Go.Proofs.YtbbnkclajpaghaaGreatDoor
namespace Go.Proofs.YtbbnkclajpaghaaGreatDoor
open Go.ChangeShapes Go.WideShapes Go.ChangeAt Go.RowKit
set_option linter.unusedVariables false
set_option linter.unusedSimpArgs false
attribute [local go_sem ↓] Go.wp_at_zero Go.wp_at_succ
theorem visE_row {r : Vr} (h : rowB r = true) : visE r = 0 := by
 simp only [rowB, Bool.and_eq_true] at h
 unfold visE
 rw [h.2.2.2.2]; rfl
theorem val_lim {r : Vr} (h : Cxm.chkB r.re r.im r.dn = true) : -1000000000 ≤ r.re ∧ r.re ≤ 1000000000 ∧ -1000000000 ≤ r.im ∧ r.im ≤ 1000000000 ∧ 1 ≤ r.dn ∧ r.dn ≤ 1000000000 := by
 simp only [Cxm.chkB, Cxm.fitsB, Bool.and_eq_true, decide_eq_true_eq] at h
 omega
set_option maxRecDepth 100000 in
set_option maxHeartbeats 8000000 in
theorem parts_calls {r : Vr} (h : rowB r = true) (w : World) : Calls Tryz.prog 51 #[Wv r] w fun e w' => e = .returned (.tuple #[Fv (makeF r.re r.dn).1 (makeF r.re r.dn).2.1, Fv (makeF r.im r.dn).1 (makeF r.im r.dn).2.1, .int .i64 0]) ∧ Below w.heap.size w w' := by
 have NN := Lib.hid (Below.refl w.heap.size w)
 obtain ⟨-, -, hc, ⟨n1, d1, e1, -, -⟩, ⟨n2, d2, e2, -, -⟩, -⟩ := rowB_val h
 have hl := val_lim hc
 have C0 := Lib.hid (fun W => wcheck_calls r W)
 rw [visE_row h] at C0
 have C1 := Lib.hid (fun W => make_calls r.re r.dn W (by omega) (by omega) (by omega) (by omega))
 have C2 := Lib.hid (fun W => make_calls r.im r.dn W (by omega) (by omega) (by omega) (by omega))
 rw [e1] at C1 ⊢
 rw [e2] at C2 ⊢
 simp only
 clear h hc hl e1 e2
 go_enter Tryz.func51, Tryz.ntmps51
 go_wp2_with fail
 have V : Hid ((((w.alloc (.cells #[.int .i64 r.i, .int .i64 r.j, .int .i64 r.re, .int .i64 r.im, .int .i64 r.dn, .int .i64 r.n] 42)).alloc (.cells #[.int .i64 0, .int .i64 0] 83)).alloc (.cells #[.int .i64 0, .int .i64 0] 83)).heap[w.heap.size]? = some (.cells #[.int .i64 r.i, .int .i64 r.j, .int .i64 r.re, .int .i64 r.im, .int .i64 r.dn, .int .i64 r.n] 42)) := Lib.hid (blk_alloc (blk_alloc (blk_new w _) _) _)
 have RE : Hid ((((w.alloc (.cells #[.int .i64 r.i, .int .i64 r.j, .int .i64 r.re, .int .i64 r.im, .int .i64 r.dn, .int .i64 r.n] 42)).alloc (.cells #[.int .i64 0, .int .i64 0] 83)).alloc (.cells #[.int .i64 0, .int .i64 0] 83)).heap[w.heap.size + 1]? = some (.cells #[.int .i64 0, .int .i64 0] 83)) := Lib.hid (blk_alloc (blk_at _ (by simp)) _)
 have IM : Hid ((((w.alloc (.cells #[.int .i64 r.i, .int .i64 r.j, .int .i64 r.re, .int .i64 r.im, .int .i64 r.dn, .int .i64 r.n] 42)).alloc (.cells #[.int .i64 0, .int .i64 0] 83)).alloc (.cells #[.int .i64 0, .int .i64 0] 83)).heap[w.heap.size + 1 + 1]? = some (.cells #[.int .i64 0, .int .i64 0] 83)) := Lib.hid (blk_at _ (by simp))
 replace NN : Hid (Below w.heap.size w (((w.alloc (.cells #[.int .i64 r.i, .int .i64 r.j, .int .i64 r.re, .int .i64 r.im, .int .i64 r.dn, .int .i64 r.n] 42)).alloc (.cells #[.int .i64 0, .int .i64 0] 83)).alloc (.cells #[.int .i64 0, .int .i64 0] 83))) := Lib.hid (Bal (Bal (Bal NN.out _) _) _)
 generalize (((w.alloc (.cells #[.int .i64 r.i, .int .i64 r.j, .int .i64 r.re, .int .i64 r.im, .int .i64 r.dn, .int .i64 r.n] 42)).alloc (.cells #[.int .i64 0, .int .i64 0] 83)).alloc (.cells #[.int .i64 0, .int .i64 0] 83)) = W1 at *
 have c_V_0 := blk_cell V.out 0 _ rfl
 have f_V_0 := blk_frozen V.out 0
 have c_V_1 := blk_cell V.out 1 _ rfl
 have f_V_1 := blk_frozen V.out 1
 have c_V_2 := blk_cell V.out 2 _ rfl
 have f_V_2 := blk_frozen V.out 2
 have c_V_3 := blk_cell V.out 3 _ rfl
 have f_V_3 := blk_frozen V.out 3
 have c_V_4 := blk_cell V.out 4 _ rfl
 have f_V_4 := blk_frozen V.out 4
 have c_V_5 := blk_cell V.out 5 _ rfl
 have f_V_5 := blk_frozen V.out 5
 have l_V := blk_lt V.out
 go_wp2_with fail
 clear c_V_0 f_V_0 c_V_1 f_V_1 c_V_2 f_V_2 c_V_3 f_V_3 c_V_4 f_V_4 c_V_5 f_V_5 l_V
 refine (C0.out _).mono ?_
 rintro e w2 ⟨rfl, hb⟩
 replace NN := Lib.hid (Bgo NN.out hb)
 replace V := Lib.hid (blk_next hb V.out)
 replace RE := Lib.hid (blk_next hb RE.out)
 replace IM := Lib.hid (blk_next hb IM.out)
 clear hb
 have c_V_0 := blk_cell V.out 0 _ rfl
 have f_V_0 := blk_frozen V.out 0
 have c_V_1 := blk_cell V.out 1 _ rfl
 have f_V_1 := blk_frozen V.out 1
 have c_V_2 := blk_cell V.out 2 _ rfl
 have f_V_2 := blk_frozen V.out 2
 have c_V_3 := blk_cell V.out 3 _ rfl
 have f_V_3 := blk_frozen V.out 3
 have c_V_4 := blk_cell V.out 4 _ rfl
 have f_V_4 := blk_frozen V.out 4
 have c_V_5 := blk_cell V.out 5 _ rfl
 have f_V_5 := blk_frozen V.out 5
 have l_V := blk_lt V.out
 have c_RE_0 := blk_cell RE.out 0 _ rfl
 have f_RE_0 := blk_frozen RE.out 0
 have c_RE_1 := blk_cell RE.out 1 _ rfl
 have f_RE_1 := blk_frozen RE.out 1
 have l_RE := blk_lt RE.out
 go_wp2_with fail
 clear c_V_0 f_V_0 c_V_1 f_V_1 c_V_2 f_V_2 c_V_3 f_V_3 c_V_4 f_V_4 c_V_5 f_V_5 l_V c_RE_0 f_RE_0 c_RE_1 f_RE_1 l_RE
 refine (C1.out _).mono ?_
 rintro e w3 ⟨rfl, hb⟩
 replace NN := Lib.hid (Bgo NN.out hb)
 replace V := Lib.hid (blk_next hb V.out)
 replace RE := Lib.hid (blk_next hb RE.out)
 replace IM := Lib.hid (blk_next hb IM.out)
 clear hb
 have c_RE_0 := blk_cell RE.out 0 _ rfl
 have f_RE_0 := blk_frozen RE.out 0
 have c_RE_1 := blk_cell RE.out 1 _ rfl
 have f_RE_1 := blk_frozen RE.out 1
 have l_RE := blk_lt RE.out
 have c_V_0 := blk_cell V.out 0 _ rfl
 have f_V_0 := blk_frozen V.out 0
 have c_V_1 := blk_cell V.out 1 _ rfl
 have f_V_1 := blk_frozen V.out 1
 have c_V_2 := blk_cell V.out 2 _ rfl
 have f_V_2 := blk_frozen V.out 2
 have c_V_3 := blk_cell V.out 3 _ rfl
 have f_V_3 := blk_frozen V.out 3
 have c_V_4 := blk_cell V.out 4 _ rfl
 have f_V_4 := blk_frozen V.out 4
 have c_V_5 := blk_cell V.out 5 _ rfl
 have f_V_5 := blk_frozen V.out 5
 have l_V := blk_lt V.out
 go_wp2_with fail
 clear c_RE_0 f_RE_0 c_RE_1 f_RE_1 l_RE c_V_0 f_V_0 c_V_1 f_V_1 c_V_2 f_V_2 c_V_3 f_V_3 c_V_4 f_V_4 c_V_5 f_V_5 l_V
 replace V : Hid (((w3.setCell ⟨w.heap.size + 1, 0, none⟩ (.int .i64 n1)).setCell ⟨w.heap.size + 1, 1, none⟩ (.int .i64 d1)).heap[w.heap.size]? = some (.cells #[.int .i64 r.i, .int .i64 r.j, .int .i64 r.re, .int .i64 r.im, .int .i64 r.dn, .int .i64 r.n] 42)) := Lib.hid (blk_set_other (b' := w.heap.size + 1) (blk_set_other (b' := w.heap.size + 1) (V.out) (by omega) 0 (.int .i64 n1)) (by omega) 1 (.int .i64 d1))
 replace RE : Hid (((w3.setCell ⟨w.heap.size + 1, 0, none⟩ (.int .i64 n1)).setCell ⟨w.heap.size + 1, 1, none⟩ (.int .i64 d1)).heap[w.heap.size + 1]? = some (.cells #[.int .i64 n1, .int .i64 d1] 83)) := Lib.hid (blk_set (blk_set (RE.out) 0 (.int .i64 n1)) 1 (.int .i64 d1))
 replace IM : Hid (((w3.setCell ⟨w.heap.size + 1, 0, none⟩ (.int .i64 n1)).setCell ⟨w.heap.size + 1, 1, none⟩ (.int .i64 d1)).heap[w.heap.size + 1 + 1]? = some (.cells #[.int .i64 0, .int .i64 0] 83)) := Lib.hid (blk_set_other (b' := w.heap.size + 1) (blk_set_other (b' := w.heap.size + 1) (IM.out) (by omega) 0 (.int .i64 n1)) (by omega) 1 (.int .i64 d1))
 replace NN := Lib.hid (Bset1 (Bset1 (NN.out) (show w.heap.size ≤ w.heap.size + 1 by omega) 0 (.int .i64 n1)) (show w.heap.size ≤ w.heap.size + 1 by omega) 1 (.int .i64 d1))
 generalize ((w3.setCell ⟨w.heap.size + 1, 0, none⟩ (.int .i64 n1)).setCell ⟨w.heap.size + 1, 1, none⟩ (.int .i64 d1)) = W4 at *
 refine (C2.out _).mono ?_
 rintro e w5 ⟨rfl, hb⟩
 replace NN := Lib.hid (Bgo NN.out hb)
 replace V := Lib.hid (blk_next hb V.out)
 replace RE := Lib.hid (blk_next hb RE.out)
 replace IM := Lib.hid (blk_next hb IM.out)
 clear hb
 have c_IM_0 := blk_cell IM.out 0 _ rfl
 have f_IM_0 := blk_frozen IM.out 0
 have c_IM_1 := blk_cell IM.out 1 _ rfl
 have f_IM_1 := blk_frozen IM.out 1
 have l_IM := blk_lt IM.out
 go_upto_region 10 with fail
 clear c_IM_0 f_IM_0 c_IM_1 f_IM_1 l_IM
 replace V : Hid (((w5.setCell ⟨w.heap.size + 1 + 1, 0, none⟩ (.int .i64 n2)).setCell ⟨w.heap.size + 1 + 1, 1, none⟩ (.int .i64 d2)).heap[w.heap.size]? = some (.cells #[.int .i64 r.i, .int .i64 r.j, .int .i64 r.re, .int .i64 r.im, .int .i64 r.dn, .int .i64 r.n] 42)) := Lib.hid (blk_set_other (b' := w.heap.size + 1 + 1) (blk_set_other (b' := w.heap.size + 1 + 1) (V.out) (by omega) 0 (.int .i64 n2)) (by omega) 1 (.int .i64 d2))
 replace RE : Hid (((w5.setCell ⟨w.heap.size + 1 + 1, 0, none⟩ (.int .i64 n2)).setCell ⟨w.heap.size + 1 + 1, 1, none⟩ (.int .i64 d2)).heap[w.heap.size + 1]? = some (.cells #[.int .i64 n1, .int .i64 d1] 83)) := Lib.hid (blk_set_other (b' := w.heap.size + 1 + 1) (blk_set_other (b' := w.heap.size + 1 + 1) (RE.out) (by omega) 0 (.int .i64 n2)) (by omega) 1 (.int .i64 d2))
 replace IM : Hid (((w5.setCell ⟨w.heap.size + 1 + 1, 0, none⟩ (.int .i64 n2)).setCell ⟨w.heap.size + 1 + 1, 1, none⟩ (.int .i64 d2)).heap[w.heap.size + 1 + 1]? = some (.cells #[.int .i64 n2, .int .i64 d2] 83)) := Lib.hid (blk_set (blk_set (IM.out) 0 (.int .i64 n2)) 1 (.int .i64 d2))
 replace NN := Lib.hid (Bset1 (Bset1 (NN.out) (show w.heap.size ≤ w.heap.size + 1 + 1 by omega) 0 (.int .i64 n2)) (show w.heap.size ≤ w.heap.size + 1 + 1 by omega) 1 (.int .i64 d2))
 generalize ((w5.setCell ⟨w.heap.size + 1 + 1, 0, none⟩ (.int .i64 n2)).setCell ⟨w.heap.size + 1 + 1, 1, none⟩ (.int .i64 d2)) = W6 at *
 have HDRW := Lib.hid (Below.drew (Below.refl W6.heap.size W6))
 replace NN := Lib.hid (Bgo NN.out HDRW.out)
 replace V := Lib.hid (blk_next HDRW.out V.out)
 replace RE := Lib.hid (blk_next HDRW.out RE.out)
 replace IM := Lib.hid (blk_next HDRW.out IM.out)
 clear HDRW
 have HAL : Hid (∀ kx9 : Nat, GK [(0, w.heap.size + 1, .cells #[.int .i64 n1, .int .i64 d1] 83), (1, w.heap.size + 1 + 1, .cells #[.int .i64 n2, .int .i64 d2] 83)] kx9 W6.drew) := Lib.hid (fun kx9 => fun px9 hp e => by
  simp only [List.mem_cons, List.not_mem_nil, or_false] at hp
  rcases hp with rfl | rfl
  ·exact RE.out
  ·exact IM.out
 )
 refine region_G (S := GK [(0, w.heap.size + 1, .cells #[.int .i64 n1, .int .i64 d1] 83), (1, w.heap.size + 1 + 1, .cells #[.int .i64 n2, .int .i64 d2] 83)]) (by kernel_rfl) ?_
 refine tG 0 (.agg #[.int .i64 n1, .int .i64 d1]) (some 43) (GK.grow _) rfl (YieldsIf.toG (Or.inl ⟨by rfl, ?_⟩)) (HAL.out 0) ?_
 ·intro X hX
  have hh := hX (0, w.heap.size + 1, .cells #[.int .i64 n1, .int .i64 d1] 83) (List.Mem.head _) rfl
  have hh0 := blk_cell hh 0 _ rfl
  have hh1 := blk_cell hh 1 _ rfl
  have hhl := blk_lt hh
  clear hh
  clear hX
  go_simp
 try simp only [Act.put, zA, zB, zC]
 refine tG 1 (.agg #[.int .i64 n2, .int .i64 d2]) (some 44) (GK.grow _) rfl (YieldsIf.toG (Or.inl ⟨by rfl, ?_⟩)) (HAL.out 1) ?_
 ·intro X hX
  have hh := hX (1, w.heap.size + 1 + 1, .cells #[.int .i64 n2, .int .i64 d2] 83) (List.Mem.tail _ (List.Mem.head _)) rfl
  have hh0 := blk_cell hh 0 _ rfl
  have hh1 := blk_cell hh 1 _ rfl
  have hhl := blk_lt hh
  clear hh
  clear hX
  go_simp
 try simp only [Act.put, zA, zB, zC]
 refine only_G 2 (by kernel_rfl) rfl (fun X7 hX K' hK' => ?_)
 replace NN := Lib.hid (Bgo NN.out hX)
 replace V := Lib.hid (blk_next hX V.out)
 replace RE := Lib.hid (blk_next hX RE.out)
 replace IM := Lib.hid (blk_next hX IM.out)
 replace HAL := Lib.hid (fun kx9 => GK.grow _ _ _ _ (HAL.out kx9) hX)
 clear hX
 have c_RE_0 := blk_cell RE.out 0 _ rfl
 have f_RE_0 := blk_frozen RE.out 0
 have c_RE_1 := blk_cell RE.out 1 _ rfl
 have f_RE_1 := blk_frozen RE.out 1
 have l_RE := blk_lt RE.out
 go_simp
 clear c_RE_0 f_RE_0 c_RE_1 f_RE_1 l_RE
 refine hK'.out _ _ (fun kk hk hS => ?_) ?_
 ·have HN : ∀ px9 ∈ ([(0, w.heap.size + 1, .cells #[.int .i64 n1, .int .i64 d1] 83), (1, w.heap.size + 1 + 1, .cells #[.int .i64 n2, .int .i64 d2] 83)] : List (Nat × Nat × Obj)), px9.1 = kk → px9.2.1 ≠ w.heap.size + 1 := fun px9 hp e => by
   simp only [List.mem_cons, List.not_mem_nil, or_false] at hp
   rcases hp with rfl | rfl
   ·subst e
    exact bfl (by kernel_rfl) hk
   ·show w.heap.size + 1 + 1 ≠ w.heap.size + 1
    omega
  exact GK.set (GK.set hS HN) HN
 clear hK' K'
 try simp only [Act.put, zA, zB, zC]
 clear HAL
 replace V : Hid (((X7.setCell ⟨w.heap.size + 1, 0, none⟩ (.int .i64 n1)).setCell ⟨w.heap.size + 1, 1, none⟩ (.int .i64 d1)).heap[w.heap.size]? = some (.cells #[.int .i64 r.i, .int .i64 r.j, .int .i64 r.re, .int .i64 r.im, .int .i64 r.dn, .int .i64 r.n] 42)) := Lib.hid (blk_set_other (b' := w.heap.size + 1) (blk_set_other (b' := w.heap.size + 1) (V.out) (by omega) 0 (.int .i64 n1)) (by omega) 1 (.int .i64 d1))
 replace RE : Hid (((X7.setCell ⟨w.heap.size + 1, 0, none⟩ (.int .i64 n1)).setCell ⟨w.heap.size + 1, 1, none⟩ (.int .i64 d1)).heap[w.heap.size + 1]? = some (.cells #[.int .i64 n1, .int .i64 d1] 83)) := Lib.hid (blk_set (blk_set (RE.out) 0 (.int .i64 n1)) 1 (.int .i64 d1))
 replace IM : Hid (((X7.setCell ⟨w.heap.size + 1, 0, none⟩ (.int .i64 n1)).setCell ⟨w.heap.size + 1, 1, none⟩ (.int .i64 d1)).heap[w.heap.size + 1 + 1]? = some (.cells #[.int .i64 n2, .int .i64 d2] 83)) := Lib.hid (blk_set_other (b' := w.heap.size + 1) (blk_set_other (b' := w.heap.size + 1) (IM.out) (by omega) 0 (.int .i64 n1)) (by omega) 1 (.int .i64 d1))
 replace NN := Lib.hid (Bset1 (Bset1 (NN.out) (show w.heap.size ≤ w.heap.size + 1 by omega) 0 (.int .i64 n1)) (show w.heap.size ≤ w.heap.size + 1 by omega) 1 (.int .i64 d1))
 generalize ((X7.setCell ⟨w.heap.size + 1, 0, none⟩ (.int .i64 n1)).setCell ⟨w.heap.size + 1, 1, none⟩ (.int .i64 d1)) = W8 at *
 refine only_G 3 (by kernel_rfl) rfl (fun X9 hX K' hK' => ?_)
 replace NN := Lib.hid (Bgo NN.out hX)
 replace V := Lib.hid (blk_next hX V.out)
 replace RE := Lib.hid (blk_next hX RE.out)
 replace IM := Lib.hid (blk_next hX IM.out)
 skip
 clear hX
 have c_IM_0 := blk_cell IM.out 0 _ rfl
 have f_IM_0 := blk_frozen IM.out 0
 have c_IM_1 := blk_cell IM.out 1 _ rfl
 have f_IM_1 := blk_frozen IM.out 1
 have l_IM := blk_lt IM.out
 go_simp
 clear c_IM_0 f_IM_0 c_IM_1 f_IM_1 l_IM
 refine hK'.out _ _ (fun kk hk hS => ?_) ?_
 ·have HN : ∀ px9 ∈ ([(0, w.heap.size + 1, .cells #[.int .i64 n1, .int .i64 d1] 83), (1, w.heap.size + 1 + 1, .cells #[.int .i64 n2, .int .i64 d2] 83)] : List (Nat × Nat × Obj)), px9.1 = kk → px9.2.1 ≠ w.heap.size + 1 + 1 := fun px9 hp e => by
   simp only [List.mem_cons, List.not_mem_nil, or_false] at hp
   rcases hp with rfl | rfl
   ·subst e
    exact bfl (by kernel_rfl) hk
   ·subst e
    exact bfl (by kernel_rfl) hk
  exact GK.set (GK.set hS HN) HN
 clear hK' K'
 try simp only [Act.put, zA, zB, zC]
 replace V : Hid (((X9.setCell ⟨w.heap.size + 1 + 1, 0, none⟩ (.int .i64 n2)).setCell ⟨w.heap.size + 1 + 1, 1, none⟩ (.int .i64 d2)).heap[w.heap.size]? = some (.cells #[.int .i64 r.i, .int .i64 r.j, .int .i64 r.re, .int .i64 r.im, .int .i64 r.dn, .int .i64 r.n] 42)) := Lib.hid (blk_set_other (b' := w.heap.size + 1 + 1) (blk_set_other (b' := w.heap.size + 1 + 1) (V.out) (by omega) 0 (.int .i64 n2)) (by omega) 1 (.int .i64 d2))
 replace RE : Hid (((X9.setCell ⟨w.heap.size + 1 + 1, 0, none⟩ (.int .i64 n2)).setCell ⟨w.heap.size + 1 + 1, 1, none⟩ (.int .i64 d2)).heap[w.heap.size + 1]? = some (.cells #[.int .i64 n1, .int .i64 d1] 83)) := Lib.hid (blk_set_other (b' := w.heap.size + 1 + 1) (blk_set_other (b' := w.heap.size + 1 + 1) (RE.out) (by omega) 0 (.int .i64 n2)) (by omega) 1 (.int .i64 d2))
 replace IM : Hid (((X9.setCell ⟨w.heap.size + 1 + 1, 0, none⟩ (.int .i64 n2)).setCell ⟨w.heap.size + 1 + 1, 1, none⟩ (.int .i64 d2)).heap[w.heap.size + 1 + 1]? = some (.cells #[.int .i64 n2, .int .i64 d2] 83)) := Lib.hid (blk_set (blk_set (IM.out) 0 (.int .i64 n2)) 1 (.int .i64 d2))
 replace NN := Lib.hid (Bset1 (Bset1 (NN.out) (show w.heap.size ≤ w.heap.size + 1 + 1 by omega) 0 (.int .i64 n2)) (show w.heap.size ≤ w.heap.size + 1 + 1 by omega) 1 (.int .i64 d2))
 generalize ((X9.setCell ⟨w.heap.size + 1 + 1, 0, none⟩ (.int .i64 n2)).setCell ⟨w.heap.size + 1 + 1, 1, none⟩ (.int .i64 d2)) = W10 at *
 refine tG 4 (.int .i64 0) (some 4) (GK.grow _) rfl (YieldsIf.toG (Or.inl ⟨by rfl, ?_⟩)) (GK.drop (by simp)) ?_
 ·intro X hX
  clear hX
  go_simp
 try simp only [Act.put, zA, zB, zC]
 refine done_G (by kernel_rfl) (fun X11 hX => ?_) _
 replace NN := Lib.hid (Bgo NN.out hX)
 replace V := Lib.hid (blk_next hX V.out)
 replace RE := Lib.hid (blk_next hX RE.out)
 replace IM := Lib.hid (blk_next hX IM.out)
 clear hX
 have c_RE_0 := blk_cell RE.out 0 _ rfl
 have f_RE_0 := blk_frozen RE.out 0
 have c_RE_1 := blk_cell RE.out 1 _ rfl
 have f_RE_1 := blk_frozen RE.out 1
 have l_RE := blk_lt RE.out
 have c_IM_0 := blk_cell IM.out 0 _ rfl
 have f_IM_0 := blk_frozen IM.out 0
 have c_IM_1 := blk_cell IM.out 1 _ rfl
 have f_IM_1 := blk_frozen IM.out 1
 have l_IM := blk_lt IM.out
 go_wp2_with fail
 exact bodyPost_ret (v := .tuple #[Fv n1 d1, Fv n2 d2, .int .i64 0]) (by simp [results, Tryz.results51, go_sem, c_RE_0, c_RE_1, c_IM_0, c_IM_1]) rfl ⟨rfl, NN.out⟩
end Go.Proofs.YtbbnkclajpaghaaGreatDoor
namespace Go.Proofs.YtbbnkclajpaghaaGreatDoor
open Go.ChangeShapes Go.WideShapes Go.ChangeAt Go.RowKit
set_option linter.unusedVariables false
set_option linter.unusedSimpArgs false
attribute [local go_sem ↓] Go.wp_at_zero Go.wp_at_succ
theorem itoa_calls (n : Int) (w : World) (h1 : -9223372036854775808 ≤ n) (h2 : n ≤ 9223372036854775807) (g : GL w) :
  Calls Tryz.prog 53 #[.int .i64 n] w fun e w' => e = .returned (Str (Lib.itoa n)) ∧ Below w.heap.size w w' :=
 (Tryz.strconv_Itoa n h1 h2 w g.tab).mono fun e w' ⟨h, k, os, hw⟩ => ⟨h, by rw [hw]; exact Lib.below_grow _ _ (Nat.le_refl _) k os⟩
theorem text_ok {n d : Int} (v : VF n d) (w : World) (g : GL w) : Calls Tryz.prog 52 #[Fv n d] w fun e w' => e = .returned (.tuple #[Str (textL n d), .int .i64 0]) ∧ Below w.heap.size w w' := by
 have := text_calls n d w g
 unfold txR at this
 rw [v.err, if_pos rfl] at this
 exact this
theorem join_calls {W : World} {g : Nat} {T : TypeId} {f0 f1 f2 f3 f4 f5 f6 : List UInt8} (h : W.heap[g]? = some (.cells #[Str f0, Str f1, Str f2, Str f3, Str f4, Str f5, Str f6] T)) (hl : (Lib.join [f0, f1, f2, f3, f4, f5, f6] [32]).length ≤ 140737488355328) :
  Calls Tryz.prog 54 #[.slice (some ⟨g, 0, none⟩) 7 7, .string ⟨#[32]⟩] W fun e w' => e = .returned (Str (Lib.join [f0, f1, f2, f3, f4, f5, f6] [32])) ∧ Below W.heap.size W w' := by
 refine Tryz.strings_Join g 0 7 [⟨f0.toArray⟩, ⟨f1.toArray⟩, ⟨f2.toArray⟩, ⟨f3.toArray⟩, ⟨f4.toArray⟩, ⟨f5.toArray⟩, ⟨f6.toArray⟩] ⟨#[32]⟩ W (fun j x hx => ?_) (blk_lt h) (by simp) (Nat.le_refl _) hl
 rw [Nat.zero_add]
 have hj : j < 7 := by have := (List.getElem?_eq_some_iff.1 hx).1; simpa using this
 obtain rfl | rfl | rfl | rfl | rfl | rfl | rfl : j = 0 ∨ j = 1 ∨ j = 2 ∨ j = 3 ∨ j = 4 ∨ j = 5 ∨ j = 6 := by omega
 all_goals (injection hx with hx; subst hx; exact blk_cell h _ _ rfl)
def GB (L : List (Nat × Nat × Obj)) (w0 : World) (k : Nat) (X : World) : Prop := GK L k X ∧ Below w0.heap.size w0 X
theorem GB.grow {L : List (Nat × Nat × Obj)} {w0 : World} : ∀ k (w X : World), GB L w0 k w → Below w.heap.size w X → GB L w0 k X := fun k w X h hb => ⟨GK.grow L k w X h.1 hb, below_go h.2 hb⟩
theorem GB.alloc {L : List (Nat × Nat × Obj)} {w0 : World} {k : Nat} {X : World} (h : GB L w0 k X) (o : Obj) : GB L w0 k (X.alloc o) := ⟨h.1.alloc o, Bal h.2 _⟩
theorem VF.len {n d : Int} (v : VF n d) : (textL n d).length ≤ 43 := by
 have h1 := Lib.itoa_length_le n (by have := v.n1; omega) (by have := v.n2; omega)
 have h2 := Lib.itoa_length_le d (by have := v.d1; omega) (by have := v.d2; omega)
 unfold textL
 split
 ·omega
 ·rw [List.length_append, List.length_cons]; omega
theorem lnL_len {r : Vr} (h : rowB r = true) : (lnL r).length ≤ 200 := by
 have hf := rowB_facts h
 obtain ⟨h0, h1, -, ⟨n1, d1, e1, v1, -⟩, ⟨n2, d2, e2, v2, -⟩, -⟩ := rowB_val h
 have a1 := v1.len
 have a2 := v2.len
 have b1 := Lib.itoa_length_le r.t (by omega) (by omega)
 have b2 := Lib.itoa_length_le r.c (by omega) (by omega)
 have b3 := Lib.itoa_length_le r.i (by omega) (by omega)
 have b4 := Lib.itoa_length_le r.j (by omega) (by omega)
 have b5 := Lib.itoa_length_le r.n (by omega) (by omega)
 unfold lnL lnF
 rw [e1, e2, Lib.join_length]
 simp [Lib.lens]
 omega
set_option maxRecDepth 100000 in
set_option maxHeartbeats 8000000 in
theorem lineOf_calls {r : Vr} (h : rowB r = true) (w : World) (g : GL w) : Calls Tryz.prog 28 #[Rwv r] w fun e w' => e = .returned (.tuple #[Str (lnL r ++ [10]), .int .i64 0]) ∧ Below w.heap.size w w' := by
 have NN := Lib.hid (Below.refl w.heap.size w)
 have GG := Lib.hid g
 have PC := Lib.hid (fun W => parts_calls h W)
 have hf := rowB_facts h
 obtain ⟨h0, h1, hc, ⟨n1, d1, e1, v1, -⟩, ⟨n2, d2, e2, v2, -⟩, -⟩ := rowB_val h
 have I1 := Lib.hid (fun W (g : GL W) => itoa_calls r.t W (by omega) (by omega) g)
 have I2 := Lib.hid (fun W (g : GL W) => itoa_calls r.c W (by omega) (by omega) g)
 have I3 := Lib.hid (fun W (g : GL W) => itoa_calls r.i W (by omega) (by omega) g)
 have I4 := Lib.hid (fun W (g : GL W) => itoa_calls r.j W (by omega) (by omega) g)
 have I5 := Lib.hid (fun W (g : GL W) => itoa_calls r.n W (by omega) (by omega) g)
 have T1 := Lib.hid (fun W (g : GL W) => text_ok v1 W g)
 have T2 := Lib.hid (fun W (g : GL W) => text_ok v2 W g)
 have LN := lnL_len h
 have EL : lnL r = Lib.join (lnF r) [32] := rfl
 unfold lnF at EL
 rw [e1, e2] at EL PC
 simp only at EL PC
 rw [EL] at LN ⊢
 have LN := Lib.hid LN
 clear g h hf h0 h1 hc e1 e2 v1 v2 EL
 generalize Lib.itoa r.t = f0 at *
 generalize Lib.itoa r.c = f1 at *
 generalize Lib.itoa r.i = f2 at *
 generalize Lib.itoa r.j = f3 at *
 generalize Lib.itoa r.n = f6 at *
 generalize textL n1 d1 = f4 at *
 generalize textL n2 d2 = f5 at *
 go_enter Tryz.func28, Tryz.ntmps28
 go_wp2_with fail
 have V : Hid ((w.alloc (.cells #[.int .i64 r.t, .int .i64 r.c, .int .i64 r.i, .int .i64 r.j, .int .i64 r.re, .int .i64 r.im, .int .i64 r.dn, .int .i64 r.n] 67)).heap[w.heap.size]? = some (.cells #[.int .i64 r.t, .int .i64 r.c, .int .i64 r.i, .int .i64 r.j, .int .i64 r.re, .int .i64 r.im, .int .i64 r.dn, .int .i64 r.n] 67)) := Lib.hid (blk_new w _)
 replace NN : Hid (Below w.heap.size w (w.alloc (.cells #[.int .i64 r.t, .int .i64 r.c, .int .i64 r.i, .int .i64 r.j, .int .i64 r.re, .int .i64 r.im, .int .i64 r.dn, .int .i64 r.n] 67))) := Lib.hid (Bal NN.out _)
 generalize (w.alloc (.cells #[.int .i64 r.t, .int .i64 r.c, .int .i64 r.i, .int .i64 r.j, .int .i64 r.re, .int .i64 r.im, .int .i64 r.dn, .int .i64 r.n] 67)) = W1 at *
 have c_V_0 := blk_cell V.out 0 _ rfl
 have f_V_0 := blk_frozen V.out 0
 have c_V_1 := blk_cell V.out 1 _ rfl
 have f_V_1 := blk_frozen V.out 1
 have c_V_2 := blk_cell V.out 2 _ rfl
 have f_V_2 := blk_frozen V.out 2
 have c_V_3 := blk_cell V.out 3 _ rfl
 have f_V_3 := blk_frozen V.out 3
 have c_V_4 := blk_cell V.out 4 _ rfl
 have f_V_4 := blk_frozen V.out 4
 have c_V_5 := blk_cell V.out 5 _ rfl
 have f_V_5 := blk_frozen V.out 5
 have c_V_6 := blk_cell V.out 6 _ rfl
 have f_V_6 := blk_frozen V.out 6
 have c_V_7 := blk_cell V.out 7 _ rfl
 have f_V_7 := blk_frozen V.out 7
 have l_V := blk_lt V.out
 go_wp2_with fail
 clear c_V_0 f_V_0 c_V_1 f_V_1 c_V_2 f_V_2 c_V_3 f_V_3 c_V_4 f_V_4 c_V_5 f_V_5 c_V_6 f_V_6 c_V_7 f_V_7 l_V
 replace GG := Lib.hid (GL.next GG.out NN.out)
 refine (PC.out _).mono ?_
 rintro e w2 ⟨rfl, hb⟩
 replace NN := Lib.hid (Bgo NN.out hb)
 replace GG := Lib.hid (GL.next GG.out hb)
 replace V := Lib.hid (blk_next hb V.out)
 clear hb
 go_upto_region 2 with fail
 have HB := Lib.hid (show Below w2.heap.size w2 ((w2.alloc (.cells #[.int .i64 n1, .int .i64 d1] 83)).alloc (.cells #[.int .i64 n2, .int .i64 d2] 83)) from (Bal (Bal (Below.refl _ _) _) _))
 have RE : Hid (((w2.alloc (.cells #[.int .i64 n1, .int .i64 d1] 83)).alloc (.cells #[.int .i64 n2, .int .i64 d2] 83)).heap[w2.heap.size]? = some (.cells #[.int .i64 n1, .int .i64 d1] 83)) := Lib.hid (blk_alloc (blk_new w2 _) _)
 have IM : Hid (((w2.alloc (.cells #[.int .i64 n1, .int .i64 d1] 83)).alloc (.cells #[.int .i64 n2, .int .i64 d2] 83)).heap[w2.heap.size + 1]? = some (.cells #[.int .i64 n2, .int .i64 d2] 83)) := Lib.hid (blk_at _ (by simp))
 have LT_RE : Hid (w.heap.size < w2.heap.size ∧ w.heap.size ≤ w2.heap.size) := Lib.hid ⟨blk_lt V.out, NN.out.size⟩
 replace NN := Lib.hid (Bgo NN.out HB.out)
 replace GG := Lib.hid (GL.next GG.out HB.out)
 replace V := Lib.hid (blk_next HB.out V.out)
 clear HB
 have c_RE_0 := blk_cell RE.out 0 _ rfl
 have f_RE_0 := blk_frozen RE.out 0
 have c_RE_1 := blk_cell RE.out 1 _ rfl
 have f_RE_1 := blk_frozen RE.out 1
 have l_RE := blk_lt RE.out
 go_wp2_with fail
 clear c_RE_0 f_RE_0 c_RE_1 f_RE_1 l_RE
 generalize ((w2.alloc (.cells #[.int .i64 n1, .int .i64 d1] 83)).alloc (.cells #[.int .i64 n2, .int .i64 d2] 83)) = W3 at *
 generalize w2.heap.size = gF at *
 refine (T1.out _ GG.out).mono ?_
 rintro e w4 ⟨rfl, hb⟩
 replace NN := Lib.hid (Bgo NN.out hb)
 replace GG := Lib.hid (GL.next GG.out hb)
 replace V := Lib.hid (blk_next hb V.out)
 replace RE := Lib.hid (blk_next hb RE.out)
 replace IM := Lib.hid (blk_next hb IM.out)
 clear hb
 have c_IM_0 := blk_cell IM.out 0 _ rfl
 have f_IM_0 := blk_frozen IM.out 0
 have c_IM_1 := blk_cell IM.out 1 _ rfl
 have f_IM_1 := blk_frozen IM.out 1
 have l_IM := blk_lt IM.out
 go_wp2_with fail
 clear c_IM_0 f_IM_0 c_IM_1 f_IM_1 l_IM
 refine (T2.out _ GG.out).mono ?_
 rintro e w5 ⟨rfl, hb⟩
 replace NN := Lib.hid (Bgo NN.out hb)
 replace GG := Lib.hid (GL.next GG.out hb)
 replace V := Lib.hid (blk_next hb V.out)
 replace RE := Lib.hid (blk_next hb RE.out)
 replace IM := Lib.hid (blk_next hb IM.out)
 clear hb
 go_upto_region 10 with fail
 clear RE IM
 have HDRW := Lib.hid (Below.drew (Below.refl w5.heap.size w5))
 replace NN := Lib.hid (Bgo NN.out HDRW.out)
 replace GG := Lib.hid (GL.next GG.out HDRW.out)
 replace V := Lib.hid (blk_next HDRW.out V.out)
 clear HDRW
 have HAL : Hid (∀ kx9 : Nat, GB [(1, w.heap.size, .cells #[.int .i64 r.t, .int .i64 r.c, .int .i64 r.i, .int .i64 r.j, .int .i64 r.re, .int .i64 r.im, .int .i64 r.dn, .int .i64 r.n] 67), (4, w.heap.size, .cells #[.int .i64 r.t, .int .i64 r.c, .int .i64 r.i, .int .i64 r.j, .int .i64 r.re, .int .i64 r.im, .int .i64 r.dn, .int .i64 r.n] 67), (8, w.heap.size, .cells #[.int .i64 r.t, .int .i64 r.c, .int .i64 r.i, .int .i64 r.j, .int .i64 r.re, .int .i64 r.im, .int .i64 r.dn, .int .i64 r.n] 67), (12, w.heap.size, .cells #[.int .i64 r.t, .int .i64 r.c, .int .i64 r.i, .int .i64 r.j, .int .i64 r.re, .int .i64 r.im, .int .i64 r.dn, .int .i64 r.n] 67), (18, w.heap.size, .cells #[.int .i64 r.t, .int .i64 r.c, .int .i64 r.i, .int .i64 r.j, .int .i64 r.re, .int .i64 r.im, .int .i64 r.dn, .int .i64 r.n] 67)] w5.drew kx9 w5.drew) := Lib.hid (fun kx9 => ⟨fun px9 hp e => by
  simp only [List.mem_cons, List.not_mem_nil, or_false] at hp
  rcases hp with rfl | rfl | rfl | rfl | rfl
  ·exact V.out
  ·exact V.out
  ·exact V.out
  ·exact V.out
  ·exact V.out
 , Below.refl _ _⟩)
 refine region_G (S := GB [(1, w.heap.size, .cells #[.int .i64 r.t, .int .i64 r.c, .int .i64 r.i, .int .i64 r.j, .int .i64 r.re, .int .i64 r.im, .int .i64 r.dn, .int .i64 r.n] 67), (4, w.heap.size, .cells #[.int .i64 r.t, .int .i64 r.c, .int .i64 r.i, .int .i64 r.j, .int .i64 r.re, .int .i64 r.im, .int .i64 r.dn, .int .i64 r.n] 67), (8, w.heap.size, .cells #[.int .i64 r.t, .int .i64 r.c, .int .i64 r.i, .int .i64 r.j, .int .i64 r.re, .int .i64 r.im, .int .i64 r.dn, .int .i64 r.n] 67), (12, w.heap.size, .cells #[.int .i64 r.t, .int .i64 r.c, .int .i64 r.i, .int .i64 r.j, .int .i64 r.re, .int .i64 r.im, .int .i64 r.dn, .int .i64 r.n] 67), (18, w.heap.size, .cells #[.int .i64 r.t, .int .i64 r.c, .int .i64 r.i, .int .i64 r.j, .int .i64 r.re, .int .i64 r.im, .int .i64 r.dn, .int .i64 r.n] 67)] w5.drew) (by kernel_rfl) ?_
 refine tG 0 (.pointer (some ⟨w.heap.size, 0, none⟩)) (some 36) GB.grow rfl (YieldsIf.toG (Or.inl ⟨by rfl, ?_⟩)) (HAL.out 0) ?_
 ·intro X hX
  clear hX
  go_simp
 try simp only [Act.put, zA, zB, zC]
 refine tG 1 (.int .i64 r.t) (some 37) GB.grow rfl (YieldsIf.toG (Or.inl ⟨by rfl, ?_⟩)) (HAL.out 1) ?_
 ·intro X hX
  have hh := hX.1 (1, w.heap.size, .cells #[.int .i64 r.t, .int .i64 r.c, .int .i64 r.i, .int .i64 r.j, .int .i64 r.re, .int .i64 r.im, .int .i64 r.dn, .int .i64 r.n] 67) (List.Mem.head _) rfl
  have hh0 := blk_cell hh 0 _ rfl
  have hhl := blk_lt hh
  clear hh
  clear hX
  go_simp
 try simp only [Act.put, zA, zB, zC]
 have CFn : ∀ (args : Array Value) (W : World), Sem.run Tryz.prog (callFunc 53 args) W = .ok (.enter 53 args) W := fun _ _ => by kernel_rfl
 refine tG 2 (Str f0) (some 38) GB.grow rfl (yieldsG_call 53 #[.int .i64 r.t] (by rfl) ?_ (fun X hS => I1.out X (GG.out.next hS.2))) (HAL.out 2) ?_
 ·intro X hX
  clear hX
  go_simp
 clear CFn
 try simp only [Act.put, zA, zB, zC]
 refine tG 3 (.pointer (some ⟨w.heap.size, 1, none⟩)) (some 39) GB.grow rfl (YieldsIf.toG (Or.inl ⟨by rfl, ?_⟩)) (HAL.out 3) ?_
 ·intro X hX
  clear hX
  go_simp
 try simp only [Act.put, zA, zB, zC]
 refine tG 4 (.int .i64 r.c) (some 40) GB.grow rfl (YieldsIf.toG (Or.inl ⟨by rfl, ?_⟩)) (HAL.out 4) ?_
 ·intro X hX
  have hh := hX.1 (4, w.heap.size, .cells #[.int .i64 r.t, .int .i64 r.c, .int .i64 r.i, .int .i64 r.j, .int .i64 r.re, .int .i64 r.im, .int .i64 r.dn, .int .i64 r.n] 67) (List.Mem.tail _ (List.Mem.head _)) rfl
  have hh0 := blk_cell hh 1 _ rfl
  have hhl := blk_lt hh
  clear hh
  clear hX
  go_simp
 try simp only [Act.put, zA, zB, zC]
 have CFn : ∀ (args : Array Value) (W : World), Sem.run Tryz.prog (callFunc 53 args) W = .ok (.enter 53 args) W := fun _ _ => by kernel_rfl
 refine tG 5 (Str f1) (some 41) GB.grow rfl (yieldsG_call 53 #[.int .i64 r.c] (by rfl) ?_ (fun X hS => I2.out X (GG.out.next hS.2))) (HAL.out 5) ?_
 ·intro X hX
  clear hX
  go_simp
 clear CFn
 try simp only [Act.put, zA, zB, zC]
 refine tG 6 (.pointer (some ⟨w.heap.size, 2, none⟩)) (some 42) GB.grow rfl (YieldsIf.toG (Or.inl ⟨by rfl, ?_⟩)) (HAL.out 6) ?_
 ·intro X hX
  clear hX
  go_simp
 try simp only [Act.put, zA, zB, zC]
 refine tG 7 (.pointer (some ⟨w.heap.size, 2, none⟩)) (some 43) GB.grow rfl (YieldsIf.toG (Or.inl ⟨by rfl, ?_⟩)) (HAL.out 7) ?_
 ·intro X hX
  clear hX
  go_simp
 try simp only [Act.put, zA, zB, zC]
 refine tG 8 (.int .i64 r.i) (some 44) GB.grow rfl (YieldsIf.toG (Or.inl ⟨by rfl, ?_⟩)) (HAL.out 8) ?_
 ·intro X hX
  have hh := hX.1 (8, w.heap.size, .cells #[.int .i64 r.t, .int .i64 r.c, .int .i64 r.i, .int .i64 r.j, .int .i64 r.re, .int .i64 r.im, .int .i64 r.dn, .int .i64 r.n] 67) (List.Mem.tail _ (List.Mem.tail _ (List.Mem.head _))) rfl
  have hh0 := blk_cell hh 2 _ rfl
  have hhl := blk_lt hh
  clear hh
  clear hX
  go_simp
 try simp only [Act.put, zA, zB, zC]
 have CFn : ∀ (args : Array Value) (W : World), Sem.run Tryz.prog (callFunc 53 args) W = .ok (.enter 53 args) W := fun _ _ => by kernel_rfl
 refine tG 9 (Str f2) (some 45) GB.grow rfl (yieldsG_call 53 #[.int .i64 r.i] (by rfl) ?_ (fun X hS => I3.out X (GG.out.next hS.2))) (HAL.out 9) ?_
 ·intro X hX
  clear hX
  go_simp
 clear CFn
 try simp only [Act.put, zA, zB, zC]
 refine tG 10 (.pointer (some ⟨w.heap.size, 2, none⟩)) (some 46) GB.grow rfl (YieldsIf.toG (Or.inl ⟨by rfl, ?_⟩)) (HAL.out 10) ?_
 ·intro X hX
  clear hX
  go_simp
 try simp only [Act.put, zA, zB, zC]
 refine tG 11 (.pointer (some ⟨w.heap.size, 3, none⟩)) (some 47) GB.grow rfl (YieldsIf.toG (Or.inl ⟨by rfl, ?_⟩)) (HAL.out 11) ?_
 ·intro X hX
  clear hX
  go_simp
 try simp only [Act.put, zA, zB, zC]
 refine tG 12 (.int .i64 r.j) (some 48) GB.grow rfl (YieldsIf.toG (Or.inl ⟨by rfl, ?_⟩)) (HAL.out 12) ?_
 ·intro X hX
  have hh := hX.1 (12, w.heap.size, .cells #[.int .i64 r.t, .int .i64 r.c, .int .i64 r.i, .int .i64 r.j, .int .i64 r.re, .int .i64 r.im, .int .i64 r.dn, .int .i64 r.n] 67) (List.Mem.tail _ (List.Mem.tail _ (List.Mem.tail _ (List.Mem.head _)))) rfl
  have hh0 := blk_cell hh 3 _ rfl
  have hhl := blk_lt hh
  clear hh
  clear hX
  go_simp
 try simp only [Act.put, zA, zB, zC]
 have CFn : ∀ (args : Array Value) (W : World), Sem.run Tryz.prog (callFunc 53 args) W = .ok (.enter 53 args) W := fun _ _ => by kernel_rfl
 refine tG 13 (Str f3) (some 49) GB.grow rfl (yieldsG_call 53 #[.int .i64 r.j] (by rfl) ?_ (fun X hS => I4.out X (GG.out.next hS.2))) (HAL.out 13) ?_
 ·intro X hX
  clear hX
  go_simp
 clear CFn
 try simp only [Act.put, zA, zB, zC]
 refine tG 14 (Str f4) (some 50) GB.grow rfl (YieldsIf.toG (Or.inl ⟨by rfl, ?_⟩)) (HAL.out 14) ?_
 ·intro X hX
  clear hX
  go_simp
 try simp only [Act.put, zA, zB, zC]
 refine tG 15 (Str f5) (some 51) GB.grow rfl (YieldsIf.toG (Or.inl ⟨by rfl, ?_⟩)) (HAL.out 15) ?_
 ·intro X hX
  clear hX
  go_simp
 try simp only [Act.put, zA, zB, zC]
 refine tG 16 (.pointer (some ⟨w.heap.size, 2, none⟩)) (some 52) GB.grow rfl (YieldsIf.toG (Or.inl ⟨by rfl, ?_⟩)) (HAL.out 16) ?_
 ·intro X hX
  clear hX
  go_simp
 try simp only [Act.put, zA, zB, zC]
 refine tG 17 (.pointer (some ⟨w.heap.size, 7, none⟩)) (some 53) GB.grow rfl (YieldsIf.toG (Or.inl ⟨by rfl, ?_⟩)) (HAL.out 17) ?_
 ·intro X hX
  clear hX
  go_simp
 try simp only [Act.put, zA, zB, zC]
 refine tG 18 (.int .i64 r.n) (some 54) GB.grow rfl (YieldsIf.toG (Or.inl ⟨by rfl, ?_⟩)) (HAL.out 18) ?_
 ·intro X hX
  have hh := hX.1 (18, w.heap.size, .cells #[.int .i64 r.t, .int .i64 r.c, .int .i64 r.i, .int .i64 r.j, .int .i64 r.re, .int .i64 r.im, .int .i64 r.dn, .int .i64 r.n] 67) (List.Mem.tail _ (List.Mem.tail _ (List.Mem.tail _ (List.Mem.tail _ (List.Mem.head _))))) rfl
  have hh0 := blk_cell hh 7 _ rfl
  have hhl := blk_lt hh
  clear hh
  clear hX
  go_simp
 try simp only [Act.put, zA, zB, zC]
 have CFn : ∀ (args : Array Value) (W : World), Sem.run Tryz.prog (callFunc 53 args) W = .ok (.enter 53 args) W := fun _ _ => by kernel_rfl
 refine tG 19 (Str f6) (some 55) GB.grow rfl (yieldsG_call 53 #[.int .i64 r.n] (by rfl) ?_ (fun X hS => I5.out X (GG.out.next hS.2))) (HAL.out 19) ?_
 ·intro X hX
  clear hX
  go_simp
 clear CFn
 try simp only [Act.put, zA, zB, zC]
 refine only_G 20 (by kernel_rfl) rfl (fun X6 hX K' hK' => ?_)
 replace NN := Lib.hid (Bgo NN.out hX)
 replace GG := Lib.hid (GL.next GG.out hX)
 replace V := Lib.hid (blk_next hX V.out)
 replace HAL := Lib.hid (fun kx9 => GB.grow _ _ _ (HAL.out kx9) hX)
 clear hX
 go_simp
 refine hK'.out _ _ (fun _ _ h => h.alloc _) ?_
 clear hK' K'
 try simp only [Act.put, zA, zB, zC]
 have HB := Lib.hid (Bal (Below.refl X6.heap.size X6) (.cells #[Str f0, Str f1, Str f2, Str f3, Str f4, Str f5, Str f6] 9))
 have SL : Hid ((X6.alloc (.cells #[Str f0, Str f1, Str f2, Str f3, Str f4, Str f5, Str f6] 9)).heap[X6.heap.size]? = some (.cells #[Str f0, Str f1, Str f2, Str f3, Str f4, Str f5, Str f6] 9)) := Lib.hid (blk_new X6 (.cells #[Str f0, Str f1, Str f2, Str f3, Str f4, Str f5, Str f6] 9))
 replace NN := Lib.hid (Bgo NN.out HB.out)
 replace GG := Lib.hid (GL.next GG.out HB.out)
 replace V := Lib.hid (blk_next HB.out V.out)
 replace HAL := Lib.hid (fun kx9 => GB.grow _ _ _ (HAL.out kx9) HB.out)
 clear HB
 generalize X6.alloc (.cells #[Str f0, Str f1, Str f2, Str f3, Str f4, Str f5, Str f6] 9) = W7 at *
 generalize X6.heap.size = gSL at *
 refine tG 21 (.slice (some ⟨gSL, 0, none⟩) 7 7) (some 9) GB.grow rfl (YieldsIf.toG (Or.inl ⟨by rfl, ?_⟩)) (HAL.out 21) ?_
 ·intro X hX
  clear hX
  go_simp
 try simp only [Act.put, zA, zB, zC]
 clear HAL
 refine done_G (by kernel_rfl) (fun X8 hX => ?_) _
 replace NN := Lib.hid (Bgo NN.out hX)
 replace GG := Lib.hid (GL.next GG.out hX)
 replace V := Lib.hid (blk_next hX V.out)
 replace SL := Lib.hid (blk_next hX SL.out)
 clear hX
 go_wp2_with fail
 refine (join_calls SL.out (Nat.le_trans LN.out (by decide))).mono ?_
 rintro e w9 ⟨rfl, hb⟩
 replace NN := Lib.hid (Bgo NN.out hb)
 replace GG := Lib.hid (GL.next GG.out hb)
 replace V := Lib.hid (blk_next hb V.out)
 replace SL := Lib.hid (blk_next hb SL.out)
 clear hb
 go_wp2_with fail
 exact bodyPost_ret (v := .tuple #[.string ((⟨(Lib.join [f0, f1, f2, f3, f4, f5, f6] [32]).toArray⟩ : ByteArray) ++ ⟨#[10]⟩), .int .i64 0]) (by simp [results, Tryz.results28, go_sem]) rfl ⟨by rw [show (⟨#[10]⟩ : ByteArray) = ⟨[10].toArray⟩ from rfl, cat2], NN.out⟩
end Go.Proofs.YtbbnkclajpaghaaGreatDoor
namespace Go.Proofs.YtbbnkclajpaghaaGreatDoor
open Go Go.RowKit
set_option linter.unusedVariables false
set_option maxRecDepth 100000
section
variable {P : Program} {ops : Array Oper} {Q : Exit → Act → World → Prop} {md : Region.Mode} {S : Nat → World → Prop}
end
def SZ (L : List (Nat × Addr × Value)) (C : List (Nat × Option Addr × List Nat)) (k : Nat) (X : World) : Prop := (∀ p ∈ L, p.1 = k → p.2.1.block < X.heap.size ∧ X.cell? p.2.1 = some p.2.2) ∧ ∀ p ∈ C, p.1 ≠ k
theorem SZ.next {L : List (Nat × Addr × Value)} {C : List (Nat × Option Addr × List Nat)} {k : Nat} {X Y : World} (h : SZ L C k X) (hb : Below X.heap.size X Y) : SZ L C k Y := by
 refine ⟨fun p hp e => ?_, h.2⟩
 obtain ⟨h1, h2⟩ := h.1 p hp e
 exact ⟨Nat.lt_of_lt_of_le h1 hb.size, (hb.cell h1).trans h2⟩
theorem SZ.drop {L : List (Nat × Addr × Value)} {C : List (Nat × Option Addr × List Nat)} {k : Nat} {X : World} (h : ∀ p ∈ L, p.1 ≠ k) (h2 : ∀ p ∈ C, p.1 ≠ k) : SZ L C k X := ⟨fun p hp e => absurd e (h p hp), h2⟩
end Go.Proofs.YtbbnkclajpaghaaGreatDoor
