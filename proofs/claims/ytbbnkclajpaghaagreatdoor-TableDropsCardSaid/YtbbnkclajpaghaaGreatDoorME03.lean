/- Several texts in one. -/
import Derived.WalkLawsBesides
import Derived.WalkSpells
import Derived.Outline
import Derived.Deep.QuietTactic
import Derived.BigQuiet
import Derived.WalkSmall
import Derived.Maps.AppendAt
import Derived.Deep.AppendLies
import Derived.RegionTactic
import Derived.Deep.DrawnRows
import Derived.Deep.RegionHeld3
import Derived.OpenShut
import Derived.StillTail
import Derived.StillTailTactics
import Derived.Test.YtbbnkclajpaghaaGreatDoorME00
import Derived.Test.YtbbnkclajpaghaaGreatDoorME01
import Derived.Test.YtbbnkclajpaghaaGreatDoorME02
set_option maxHeartbeats 8000000
set_option maxRecDepth 100000
set_option linter.unusedVariables false
set_option linter.unusedSimpArgs false
namespace Go.Proofs.YtbbnkclajpaghaaGreatDoor
section
def allK : List Int := (List.range 65536).map Int.ofNat
theorem allK_lt : allK.Pairwise (· < ·) := by
 unfold allK
 rw [List.pairwise_map]
 exact List.pairwise_lt_range.imp fun h => by simpa using h
theorem allK_mem {k : Int} : k ∈ allK ↔ 0 ≤ k ∧ k < 65536 := by
 unfold allK
 rw [List.mem_map]
 constructor
 ·rintro ⟨n, hn, rfl⟩
  have := List.mem_range.1 hn
  exact ⟨by simp, by simp; omega⟩
 ·rintro ⟨h0, h1⟩
  exact ⟨k.toNat, List.mem_range.2 (by omega), by simp; omega⟩
theorem key_all {r : Vr} (h : rowB r = true) : vkey r ∈ allK := by
 have := rowB_facts h
 rw [allK_mem]
 unfold vkey
 omega
def hK (a b k : Int) : Int := ((k / 1024 / a * 16 + k / 64 % 16 / b) * 8 + k / 8 % 8) * 8 + k % 8
theorem key_parts {r : Vr} (h : rowB r = true) : vkey r / 1024 = r.t ∧ vkey r / 64 % 16 = r.c ∧ vkey r / 8 % 8 = r.i ∧ vkey r % 8 = r.j := by
 have := rowB_facts h
 unfold vkey
 omega
theorem key_same {r s : Vr} (h : rowB r = true) (h' : rowB s = true) (e : vkey r = vkey s) : r.t = s.t ∧ r.c = s.c ∧ r.i = s.i ∧ r.j = s.j := by
 have h1 := key_parts h
 have h2 := key_parts h'
 rw [e] at h1
 omega
theorem quo_bd {x a n : Int} (h0 : 0 ≤ x) (h1 : x < n) (ha : 1 ≤ a) : 0 ≤ x / a ∧ x / a < n := by
 refine ⟨Int.ediv_nonneg h0 (by omega), ?_⟩
 have := Int.ediv_le_self a h0
 omega
theorem avT_quo {a b : Int} {r : Vr} (ha : 1 ≤ a) (hb : 1 ≤ b) (h : rowB r = true) : avT a b r = { r with t := r.t / a, c := r.c / b } := by
 have := rowB_facts h
 unfold avT
 rw [Int.tdiv_eq_ediv_of_nonneg (by omega), Int.tdiv_eq_ediv_of_nonneg (by omega)]
theorem avT_row {a b : Int} {r : Vr} (ha : 1 ≤ a) (hb : 1 ≤ b) (h : rowB r = true) : rowB (avT a b r) = true := by
 have h0 := rowB_facts h
 have h1 := quo_bd (a := a) h0.1 h0.2.1 ha
 have h2 := quo_bd (a := b) h0.2.2.1 h0.2.2.2.1 hb
 rw [avT_quo ha hb h]
 have h3 : visB r = true := by
  simp only [rowB, Bool.and_eq_true] at h
  exact h.2.2.2.2
 have h4 : visB { r with t := r.t / a, c := r.c / b } = visB r := rfl
 unfold rowB
 rw [h4, h3]
 simp only [Bool.and_eq_true, decide_eq_true_eq]
 exact ⟨h1.1, h1.2, h2.1, h2.2, trivial⟩
theorem row_vis {r : Vr} (h : rowB r = true) : visB r = true := by
 simp only [rowB, Bool.and_eq_true] at h
 exact h.2.2.2.2
def avR (a b : Int) (t : List Vr) : Int × List Vr := avK allK (t.map (avT a b))
end
section
def ins (r : Vr) : List Vr → List Vr
 | [] => [r]
 | q :: l => if vkey r ≤ vkey q then r :: q :: l else q :: ins r l
def isort : List Vr → List Vr
 | [] => []
 | r :: l => ins r (isort l)
theorem ins_mem {r x : Vr} : ∀ {l : List Vr}, x ∈ ins r l ↔ x = r ∨ x ∈ l
 | [] => by simp [ins]
 | q :: l => by
  unfold ins
  split
  ·simp
  ·rw [List.mem_cons, ins_mem (l := l), List.mem_cons]
   constructor
   ·rintro (h | h | h)
    ·exact .inr (.inl h)
    ·exact .inl h
    ·exact .inr (.inr h)
   ·rintro (h | h | h)
    ·exact .inr (.inl h)
    ·exact .inl h
    ·exact .inr (.inr h)
theorem ins_srt {r : Vr} : ∀ {l : List Vr}, Srt vkey l → Srt vkey (ins r l)
 | [], _ => List.pairwise_singleton ..
 | q :: l, h => by
  obtain ⟨h1, h2⟩ := List.pairwise_cons.1 h
  unfold ins
  split
  ·rename_i hc
   refine List.pairwise_cons.2 ⟨fun x hx => ?_, h⟩
   rcases List.mem_cons.1 hx with rfl | hx
   ·exact hc
   ·have := h1 x hx; omega
  ·rename_i hc
   refine List.pairwise_cons.2 ⟨fun x hx => ?_, ins_srt h2⟩
   rcases ins_mem.1 hx with rfl | hx
   ·omega
   ·exact h1 x hx
theorem ins_fe {r : Vr} : ∀ {l : List Vr}, Srt vkey l → FE vkey (ins r l) (r :: l)
 | [], _ => FE.refl _
 | q :: l, h => by
  obtain ⟨h1, h2⟩ := List.pairwise_cons.1 h
  unfold ins
  split
  ·exact FE.refl _
  ·rename_i hc
   intro k
   have ih := ins_fe (r := r) h2 k
   by_cases e : vkey q = k
   ·have e' : ¬ vkey r = k := by omega
    rw [List.filter_cons_of_pos (by simpa using e), ih, List.filter_cons_of_neg (by simpa using e'), List.filter_cons_of_neg (by simpa using e'), List.filter_cons_of_pos (by simpa using e)]
   ·rw [List.filter_cons_of_neg (by simpa using e), ih]
    by_cases e' : vkey r = k
    ·rw [List.filter_cons_of_pos (by simpa using e'), List.filter_cons_of_pos (by simpa using e'), List.filter_cons_of_neg (by simpa using e)]
    ·rw [List.filter_cons_of_neg (by simpa using e'), List.filter_cons_of_neg (by simpa using e'), List.filter_cons_of_neg (by simpa using e)]
theorem isort_srt : ∀ (l : List Vr), Srt vkey (isort l)
 | [] => List.Pairwise.nil
 | r :: l => ins_srt (isort_srt l)
theorem isort_fe : ∀ (l : List Vr), FE vkey l (isort l)
 | [] => FE.refl _
 | r :: l => by
  refine FE.trans (fun k => ?_) (ins_fe (isort_srt l)).symm
  have := isort_fe l k
  by_cases e : vkey r = k
  ·rw [List.filter_cons_of_pos (by simpa using e), List.filter_cons_of_pos (by simpa using e), this]
  ·rw [List.filter_cons_of_neg (by simpa using e), List.filter_cons_of_neg (by simpa using e), this]
theorem isort_len : ∀ (l : List Vr), (isort l).length = l.length
 | [] => rfl
 | r :: l => by
  have h : ∀ (l : List Vr), (ins r l).length = l.length + 1 := fun l => by
   induction l with
   | nil => rfl
   | cons q l ih => unfold ins; split <;> simp [ih]
  show (ins r (isort l)).length = _
  rw [h, isort_len l, List.length_cons]
theorem mapT_row {a b : Int} {t : List Vr} (ha : 1 ≤ a) (hb : 1 ≤ b) (ht : ∀ r ∈ t, rowB r = true) : ∀ r ∈ t.map (avT a b), rowB r = true := fun r hr => by
 obtain ⟨q, hq, rfl⟩ := List.mem_map.1 hr
 exact avT_row ha hb (ht q hq)
theorem avR_isort {a b : Int} {t : List Vr} (ha : 1 ≤ a) (hb : 1 ≤ b) (ht : ∀ r ∈ t, rowB r = true) : avR a b t = avF (grps (isort (t.map (avT a b)))) :=
 avK_grps allK_lt (isort_srt _) (isort_fe _) fun r hr => key_all (mapT_row ha hb ht r hr)
theorem goodF_srt {q : Option Vr} {l : List Vr} (h : goodF q l = true) : l.Pairwise fun a b => vkey a < vkey b := by
 induction l generalizing q with
 | nil => exact List.Pairwise.nil
 | cons r l ih =>
  have h' := goodF_none h
  simp only [goodF, Bool.and_eq_true] at h'
  exact List.pairwise_cons.2 ⟨goodF_gt h'.2, ih h'.2⟩
theorem goodF_of : ∀ {l : List Vr} {q : Option Vr}, (∀ r ∈ l, rowB r = true) → (l.Pairwise fun a b => vkey a < vkey b) → (∀ x, q = some x → ∀ r ∈ l, vkey x < vkey r) → goodF q l = true
 | [], q, _, _, _ => by cases q <;> rfl
 | r :: l, q, h, hp, hq => by
  obtain ⟨h1, h2⟩ := List.pairwise_cons.1 hp
  have ih := goodF_of (l := l) (q := some r) (fun x hx => h x (List.mem_cons_of_mem _ hx)) h2 fun x e y hy => by injection e with e; subst e; exact h1 y hy
  have hr := h r (List.mem_cons_self ..)
  cases q with
  | none => simp only [goodF, hr, ih, Bool.and_self]
  | some x => simp only [goodF, hr, ih, Bool.and_self, decide_eq_true (hq x rfl r (List.mem_cons_self ..))]
theorem good_of {l : List Vr} (h : ∀ r ∈ l, rowB r = true) (hp : l.Pairwise fun a b => vkey a < vkey b) : goodB l = true := goodF_of h hp fun x e => by cases e
def avgE (l : List Vr) (a b : Int) : Int := if chkE l ≠ 0 then chkE l else if a < 1 ∨ 64 < a ∨ b < 1 ∨ 16 < b then 2 else (avR a b l).1
def avgL (l : List Vr) (a b : Int) : List Vr := if avgE l a b = 0 then (avR a b l).2 else []
end
section
open Go Go.RowKit
section
variable {P : Program} {ops : Array Oper} {Q : Exit → Act → World → Prop} {md : Region.Mode} {S : Nat → World → Prop}
theorem below_go {w X Y : World} (h : Below w.heap.size w X) (h' : Below X.heap.size X Y) : Below w.heap.size w Y := h.trans (h'.mono h.size)
def Shutd (md : Region.Mode) (ops : Array Oper) (done : Array Bool) : Prop := ∀ (m : Nat) (om : Oper), ops[m]? = some om → done.getD m false = true → ∀ e ∈ om.after, Region.binds md e = true → done.getD e.on false = true
def waitsT (md : Region.Mode) (ops : Array Oper) : Nat → Nat → Nat → Bool
 | 0, _, _ => false
 | f + 1, j, k => Region.waitsFor md ops j k || (List.range ops.size).any fun m => Region.waitsFor md ops j m && waitsT md ops f m k
theorem shut_T {done : Array Bool} (hc : Shutd md ops done) : ∀ (f j k : Nat), waitsT md ops f j k = true → done.getD j false = true → done.getD k false = true
 | 0, _, _, h, _ => by cases h
 | f + 1, j, k, h, hj => by
  unfold waitsT at h
  rw [Bool.or_eq_true, List.any_eq_true] at h
  rcases h with h | ⟨m, _, h⟩
  ·obtain ⟨oj, hoj, e, he, hb, hon⟩ := Region.waitsFor_spec h
   rw [← hon]; exact hc j oj hoj hj e he hb
  ·rw [Bool.and_eq_true] at h
   obtain ⟨oj, hoj, e, he, hb, hon⟩ := Region.waitsFor_spec h.1
   exact shut_T hc f m k h.2 (by rw [← hon]; exact hc j oj hoj hj e he hb)
theorem ready_T {done : Array Bool} (hc : Shutd md ops done) {f j k : Nat} (hj : j ∈ Region.ready md ops done) (h : waitsT md ops f j k = true) : done.getD k false = true := by
 obtain ⟨_, o', ho', hall⟩ := mem_ready.1 hj
 cases f with
 | zero => cases h
 | succ f =>
  unfold waitsT at h
  rw [Bool.or_eq_true, List.any_eq_true] at h
  rcases h with h | ⟨m, _, h⟩
  ·obtain ⟨oj, hoj, e, he, hb, hon⟩ := Region.waitsFor_spec h
   have : o' = oj := Option.some.inj (ho'.symm.trans hoj)
   subst this
   rw [← hon]; exact hall e he hb
  ·rw [Bool.and_eq_true] at h
   obtain ⟨oj, hoj, e, he, hb, hon⟩ := Region.waitsFor_spec h.1
   have : o' = oj := Option.some.inj (ho'.symm.trans hoj)
   subst this
   exact shut_T hc f m k h.2 (by rw [← hon]; exact hall e he hb)
theorem shut_set {done : Array Bool} (hc : Shutd md ops done) {i : Nat} (hi : i ∈ Region.ready md ops done) : Shutd md ops (done.setIfInBounds i true) := by
 intro m om ho hm e he hb
 refine getD_set_true ?_
 by_cases h : i = m
 ·subst h
  obtain ⟨_, o', ho', hall⟩ := mem_ready.1 hi
  have : o' = om := Option.some.inj (ho'.symm.trans ho)
  subst this
  exact hall e he hb
 ·rw [getD_set_ne false h] at hm
  exact hc m om ho hm e he hb
abbrev Keeps (md : Region.Mode) (ops : Array Oper) (S : Nat → World → Prop) (i : Nat) (X W : World) : Prop := ∀ k, waitsT md ops ops.size i k = false → S k X → S k W
def wpAnyG (P : Program) (md : Region.Mode) (ops : Array Oper) (Q : Exit → Act → World → Prop) (S : Nat → World → Prop) : Nat → Array Bool → Act → World → Prop
 | 0, done, a, w => ∀ X : World, Below w.heap.size w X → Region.ready md ops done = [] ∧ Q .normal a X
 | f + 1, done, a, w => ∀ X : World, Below w.heap.size w X → (Region.ready md ops done = [] → Q .normal a X) ∧
  ∀ i ∈ Region.ready md ops done, wpOp P ops Q i (fun a' w' => Keeps md ops S i X w' ∧ wpAnyG P md ops Q S f (done.setIfInBounds i true) a' w') a X
theorem wpAny_of_G : ∀ (f : Nat) (done : Array Bool) (a : Act) (w : World), wpAnyG P md ops Q S f done a w → wpAny P md ops Q f done a w
 | 0, _, _, w, h => h w (Below.refl _ _)
 | f + 1, _, _, w, h => ⟨(h w (Below.refl _ _)).1, fun i hi => wpOp_mono (fun a' w' h' => wpAny_of_G f _ a' w' h'.2) ((h w (Below.refl _ _)).2 i hi)⟩
theorem wpAnyG_grow : ∀ (f : Nat) (done : Array Bool) (a : Act) (w X : World), Below w.heap.size w X → wpAnyG P md ops Q S f done a w → wpAnyG P md ops Q S f done a X
 | 0, _, _, _, _, hb, h => fun Y hY => h Y (below_go hb hY)
 | _ + 1, _, _, _, _, hb, h => fun Y hY => h Y (below_go hb hY)
def YieldsG (P : Program) (ops : Array Oper) (S : World → Prop) (o : Oper) (v : Value) (a : Act) : Prop :=
 (Region.wanted o (yielded ops a.tmps) = true ∧ ∀ w, S w → (execOp a.eval o).run P w = .ok (.value v) w ∨ ∃ f args, (execOp a.eval o).run P w = .ok (.enter f args) w ∧ Calls P f args w fun e w' => e = .returned v ∧ Below w.heap.size w w') ∨
 (Region.wanted o (yielded ops a.tmps) = false ∧ v = undef)
theorem YieldsIf.toG {S : World → Prop} {o : Oper} {v : Value} {a : Act} (h : YieldsIf P ops S o v a) : YieldsG P ops S o v a :=
 h.imp (fun ⟨hw, hv⟩ => ⟨hw, fun w hs => .inl (hv w hs)⟩) id
theorem yieldsG_call {S : World → Prop} {o : Oper} {v : Value} {a : Act} (f : Nat) (args : Array Value) (hw : Region.wanted o (yielded ops a.tmps) = true) (hr : ∀ w, S w → (execOp a.eval o).run P w = .ok (.enter f args) w)
  (hc : ∀ w, S w → Calls P f args w fun e w' => e = .returned v ∧ Below w.heap.size w w') : YieldsG P ops S o v a := .inl ⟨hw, fun w hs => .inr ⟨f, args, hr w hs, hc w hs⟩⟩
theorem YieldsG.wpOp {S : World → Prop} {i : Nat} {o : Oper} {v : Value} {a : Act} (hi : ops[i]? = some o) (hy : YieldsG P ops S o v a)
  {K : Act → World → Prop} {w : World} (hS : S w) (h : ∀ X, Below w.heap.size w X → K (a.put o.dst v) X) : wpOp P ops Q i K a w := by
 unfold Go.wpOp
 simp only [hi]
 rcases hy with ⟨hw, hv⟩ | ⟨hw, rfl⟩
 ·simp only [hw, if_true]
  rcases hv w hS with hv | ⟨f, args, hv, hc⟩
  ·simp only [Oper.wp, hv, Oper.upon]; exact .inl (h w (Below.refl _ _))
  ·simp only [Oper.wp, hv, Oper.upon]
   refine .inl (hc.mono ?_)
   rintro e w' ⟨rfl, hb⟩
   exact h w' hb
 ·simp only [hw, Bool.false_eq_true, if_false]; exact h w (Below.refl _ _)
theorem YieldsG.of_same {S : World → Prop} {o : Oper} {v : Value} {a a' : Act} (hy : YieldsG P ops S o v a) (he : execOp a'.eval o = execOp a.eval o)
  (hw : Region.wanted o (yielded ops a'.tmps) = Region.wanted o (yielded ops a.tmps)) : YieldsG P ops S o v a' := by
 unfold YieldsG at *
 rw [he, hw]
 exact hy
theorem wpOp_putG {S : World → Prop} {j : Nat} {oi oj : Oper} {v : Value} (hj : ops[j]? = some oj) (hap : oi.apart ops oj = true)
  (hsi : ∀ cs b, oi.op ≠ .select cs b) (hsj : ∀ cs b, oj.op ≠ .select cs b)
  (hQ : ∀ c a w, Q (.panic c) (a.put oi.dst v) w → Q (.panic c) a w) {K : Act → World → Prop} {a : Act} {w : World}
  (hy : YieldsG P ops S oi v a) (h : wpOp P ops Q j K (a.put oi.dst v) w) :
  wpOp P ops Q j (fun a' w' => YieldsG P ops S oi v a' ∧ K (a'.put oi.dst v) w') a w := by
 obtain ⟨h1, h2, h3⟩ := Oper.apart_spec hap
 have keep : ∀ (a : Act), YieldsG P ops S oi v a → ∀ u, YieldsG P ops S oi v (a.put oj.dst u) := fun a hy u =>
  hy.of_same (execOp_put oi hsi a oj.dst u h3) (wanted_put oi a oj.dst u h3)
 have keepD : ∀ d, YieldsG P ops S oi v { a with defers := d :: a.defers } := fun d => hy.of_same rfl rfl
 unfold wpOp at *
 simp only [hj] at *
 rw [wanted_put oj a oi.dst v h1] at h
 split
 ·rename_i hw
  simp only [hw, if_true] at h
  rcases h with h | ⟨hasks, hlets⟩
  case inr => exact .inr ⟨by unfold Oper.asks at *; rw [execOp_put oj hsj a oi.dst v h1] at hasks; exact hasks, hlets⟩
  refine .inl ?_
  unfold Oper.wp at *
  rw [execOp_put oj hsj a oi.dst v h1] at h
  generalize (execOp a.eval oj).run P w = r at *
  cases r with
  | ok n w' =>
   cases n <;> simp only [Oper.upon] at h ⊢
   case value u => exact ⟨keep a hy u, by rw [← Act.put_comm a v u h2]; exact h⟩
   case skip => exact ⟨keep a hy _, by rw [← Act.put_comm a v undef h2]; exact h⟩
   case defer d =>
    refine ⟨keep _ (keepD d) _, ?_⟩
    rw [← Act.put_comm _ v undef h2, ← Act.put_defers]
    exact h
   case enter f args =>
    refine Calls.mono h fun e w'' he => ?_
    cases e with
    | returned u => exact ⟨keep a hy u, by rw [← Act.put_comm a v u h2]; exact he⟩
    | panicked c => exact hQ _ _ _ he
    | outgrown => exact he
   case row row args => exact Rows.mono h fun u w'' he => ⟨keep a hy u, by rw [← Act.put_comm a v u h2]; exact he⟩
  | halt x w' =>
   cases x <;> simp only [Oper.upon] at h ⊢
   case panic u => exact hQ _ _ _ h
 ·rename_i hw
  simp only [hw] at h
  exact ⟨keep a hy _, by rw [← Act.put_comm a v undef h2]; exact h⟩
theorem wpAnyG_first {i : Nat} {oi : Oper} {v : Value} (hi : ops[i]? = some oi) (hsel : ∀ (j : Nat) (o : Oper) cs b, ops[j]? = some o → o.op ≠ .select cs b)
  (hQ : ∀ c a w, Q (.panic c) (a.put oi.dst v) w → Q (.panic c) a w) (hg : ∀ k w X, S k w → Below w.heap.size w X → S k X) :
  ∀ (f : Nat) (done : Array Bool) (a : Act) (w : World), Shutd md ops done →
   (∀ j oj, ops[j]? = some oj → j ≠ i → done.getD j true = false → (∀ e ∈ oj.after, Region.binds md e = true → e.on ≠ i) → oi.apart ops oj = true) →
   i ∈ Region.ready md ops done → YieldsG P ops (S i) oi v a → S i w →
   wpAnyG P md ops Q S f (done.setIfInBounds i true) (a.put oi.dst v) w → wpAnyG P md ops Q S (f + 1) done a w := by
 intro f
 induction f with
 | zero =>
  intro done a w hsh _ hr hy hS H X hX
  refine ⟨fun h => (by rw [h] at hr; cases hr), fun j hj => ?_⟩
  by_cases e : j = i
  ·subst e; exact hy.wpOp hi (hg _ _ _ hS hX) fun Y hY => ⟨fun k _ hk => hg k _ _ hk hY, fun Z hZ => H Z (below_go (below_go hX hY) hZ)⟩
  ·have := ready_mono hj e
   rw [(H X hX).1] at this
   cases this
 | succ f ih =>
  intro done a w hsh hfree hr hy hS H X hX
  refine ⟨fun h => (by rw [h] at hr; cases hr), fun j hj => ?_⟩
  by_cases e : j = i
  ·subst e; exact hy.wpOp hi (hg _ _ _ hS hX) fun Y hY => ⟨fun k _ hk => hg k _ _ hk hY, wpAnyG_grow _ _ _ _ _ (below_go hX hY) H⟩
  ·have h1 := (H X hX).2 j (ready_mono hj e)
   obtain ⟨hjun, oj, hoj, _⟩ := mem_ready.1 hj
   have nw : waitsT md ops ops.size j i = false := by
    cases h : waitsT md ops ops.size j i with
    | false => rfl
    | true =>
     have h0 := ready_T hsh hj h
     have h2 := getD_both (mem_ready.1 hr).1
     rw [h0] at h2
     cases h2
   have h2 := wpOp_putG hoj (hfree j oj hoj e hjun (edge_ne hoj hj hr)) (fun cs b => hsel i oi cs b hi) (fun cs b => hsel j oj cs b hoj) hQ hy h1
   have hfree' : ∀ k ok, ops[k]? = some ok → k ≠ i → (done.setIfInBounds j true).getD k true = false → (∀ e ∈ ok.after, Region.binds md e = true → e.on ≠ i) → oi.apart ops ok = true := fun k ok hk hki hun hno => by
    refine hfree k ok hk hki ?_ hno
    by_cases hjk : j = k
    ·subst hjk; exact hjun
    ·rw [getD_set_ne true hjk] at hun; exact hun
   have hSX := hg _ _ _ hS hX
   refine wpOp_mono (fun a' w' h3 => ⟨h3.2.1, ?_⟩) h2
   have r2 := ready_mono hr (Ne.symm e)
   refine ih (done.setIfInBounds j true) a' w' (shut_set hsh hj) hfree' r2 h3.1 (h3.2.1 i nw hSX) ?_
   rw [Array.setIfInBounds_comm _ _ e]
   exact h3.2.2
def shutB (md : Region.Mode) (ops : Array Oper) (done : Array Bool) : Bool := (List.range ops.size).all fun m => match ops[m]? with
 | none => true
 | some om => !(done.getD m false) || om.after.all fun e => !(Region.binds md e) || done.getD e.on false
theorem shutB_spec {done : Array Bool} (h : shutB md ops done = true) : Shutd md ops done := by
 intro m om ho hm e he hb
 unfold shutB at h
 have h1 := List.all_eq_true.1 h m (List.mem_range.2 (Array.getElem?_eq_some_iff.1 ho).1)
 rw [ho] at h1
 simp only [hm, Bool.not_true, Bool.false_or, Array.all_eq_true_iff_forall_mem] at h1
 have h2 := h1 e he
 rw [hb] at h2
 simpa using h2
theorem take_G {oi : Oper} {f : Nat} {done : Array Bool} {a : Act} {w : World} (i : Nat) (v : Value) (d : Option Nat) (hg : ∀ k w X, S k w → Below w.heap.size w X → S k X) (hsh : shutB md ops done = true) (hi : ops[i]? = some oi) (hs : Region.noSelect ops = true) (hf : Region.free md ops done i = true)
  (hr : (Region.ready md ops done).contains i = true) (hd : oi.dst = d) (hQ : ∀ c a w, Q (.panic c) (a.put oi.dst v) w → Q (.panic c) a w) (hy : YieldsG P ops (S i) oi v a) (hS : S i w)
  (h : wpAnyG P md ops Q S f (done.setIfInBounds i true) (a.put d v) w) : wpAnyG P md ops Q S (f + 1) done a w :=
 wpAnyG_first hi (Region.noSelect_spec hs) hQ hg f done a w (shutB_spec hsh) (Region.free_spec hi hf) (by simpa using hr) hy hS (by rw [hd]; exact h)
theorem tG {oi : Oper} {f : Nat} {done : Array Bool} {a : Act} {w : World} (i : Nat) (v : Value) (d : Option Nat) (hg : ∀ k w X, S k w → Below w.heap.size w X → S k X) (hi : ops[i]? = some oi) (hy : YieldsG P ops (S i) oi v a) (hS : S i w)
 (h : wpAnyG P md ops Q S f (done.setIfInBounds i true) (a.put d v) w) (hsh : shutB md ops done = true := by kernel_rfl) (hs : Region.noSelect ops = true := by kernel_rfl) (hf : Region.free md ops done i = true := by kernel_rfl)
 (hr : (Region.ready md ops done).contains i = true := by kernel_rfl) (hd : oi.dst = d := by rfl) (hQ : ∀ c a w, Q (.panic c) (a.put oi.dst v) w → Q (.panic c) a w := by exact fun _ _ _ h => h) : wpAnyG P md ops Q S (f + 1) done a w :=
 take_G i v d hg hsh hi hs hf hr hd hQ hy hS h
theorem only_G {o : Oper} {f : Nat} {done : Array Bool} {a : Act} {w : World} (i : Nat) (hr : Region.ready md ops done = [i]) (ho : ops[i]? = some o)
  (h : ∀ X : World, Below w.heap.size w X → ∀ K' : Act → World → Prop, Shut (∀ a' w', Keeps md ops S i X w' → wpAnyG P md ops Q S f (done.setIfInBounds i true) a' w' → K' a' w') → if Region.wanted o (yielded ops a.tmps) = true then Oper.wp P o a X K' Q else K' (a.put o.dst undef) X) :
  wpAnyG P md ops Q S (f + 1) done a w := fun X hX =>
 ⟨fun h0 => (by rw [hr] at h0; cases h0), fun j hj => by
  rw [hr] at hj
  have e : j = i := by simpa using hj
  subst e
  exact wpOp_step ho (fun K' hK => h X hX K' (fun a' w' h1 h2 => hK a' w' ⟨h1, h2⟩))⟩
theorem two_G {o o' : Oper} {f : Nat} {done : Array Bool} {a : Act} {w : World} (i j : Nat) (hr : Region.ready md ops done = [i, j]) (ho : ops[i]? = some o) (ho' : ops[j]? = some o')
  (h : ∀ X : World, Below w.heap.size w X → ∀ K' : Act → World → Prop, Shut (∀ a' w', Keeps md ops S i X w' → wpAnyG P md ops Q S f (done.setIfInBounds i true) a' w' → K' a' w') → if Region.wanted o (yielded ops a.tmps) = true then Oper.wp P o a X K' Q else K' (a.put o.dst undef) X)
  (h' : ∀ X : World, Below w.heap.size w X → ∀ K' : Act → World → Prop, Shut (∀ a' w', Keeps md ops S j X w' → wpAnyG P md ops Q S f (done.setIfInBounds j true) a' w' → K' a' w') → if Region.wanted o' (yielded ops a.tmps) = true then Oper.wp P o' a X K' Q else K' (a.put o'.dst undef) X) :
  wpAnyG P md ops Q S (f + 1) done a w := fun X hX =>
 ⟨fun h0 => (by rw [hr] at h0; cases h0), fun k hk => by
  rw [hr] at hk
  simp only [List.mem_cons, List.not_mem_nil, or_false] at hk
  rcases hk with rfl | rfl
  ·exact wpOp_step ho (fun K' hK => h X hX K' (fun a' w' h1 h2 => hK a' w' ⟨h1, h2⟩))
  ·exact wpOp_step ho' (fun K' hK => h' X hX K' (fun a' w' h1 h2 => hK a' w' ⟨h1, h2⟩))⟩
theorem done_G {done : Array Bool} {a : Act} {w : World} (hr : Region.ready md ops done = []) (h : ∀ X : World, Below w.heap.size w X → Q .normal a X) : ∀ f, wpAnyG P md ops Q S f done a w
 | 0 => fun X hX => ⟨hr, h X hX⟩
 | _ + 1 => fun X hX => ⟨fun _ => h X hX, by rw [hr]; simp⟩
theorem region_G {id : Nat} {a : Act} {w : World} (hm : P.follows .mixedOrders = true) (h : wpAnyG P .any ops Q S ops.size (Array.replicate ops.size false) a w.drew) : (Code.region id ops true).wp P Q a w :=
 wp_region_any hm (wpAny_of_G _ _ _ _ h)
end
def GK (L : List (Nat × Nat × Obj)) (k : Nat) (X : World) : Prop := ∀ p ∈ L, p.1 = k → X.heap[p.2.1]? = some p.2.2
theorem GK.grow (L : List (Nat × Nat × Obj)) : ∀ k (w X : World), GK L k w → Below w.heap.size w X → GK L k X := fun k w X h hb p hp e => blk_next hb (h p hp e)
theorem GK.drop {L : List (Nat × Nat × Obj)} {k : Nat} {Y : World} (h : ∀ p ∈ L, p.1 ≠ k) : GK L k Y := fun p hp e => absurd e (h p hp)
theorem GK.drew {L : List (Nat × Nat × Obj)} {k : Nat} {w : World} (h : GK L k w) : GK L k w.drew := fun p hp e => h p hp e
theorem GK.set {L : List (Nat × Nat × Obj)} {k b off : Nat} {X : World} {v : Value} (h : GK L k X) (hn : ∀ p ∈ L, p.1 = k → p.2.1 ≠ b) : GK L k (X.setCell ⟨b, off, none⟩ v) := fun p hp e => blk_set_other (h p hp e) (fun hh => hn p hp e hh.symm) _ _
theorem GK.alloc {L : List (Nat × Nat × Obj)} {k : Nat} {X : World} (h : GK L k X) (o : Obj) : GK L k (X.alloc o) := fun p hp e => blk_alloc (h p hp e) o
theorem tP {P : Program} {ops : Array Oper} {Q : Exit → Act → World → Prop} {md : Region.Mode} {L : List (Nat × Nat × Obj)} {oi : Oper} {f : Nat} {done : Array Bool} {a : Act} {w : World} (i : Nat) (v : Value) (d : Option Nat) (hi : ops[i]? = some oi)
 (hy : ∀ w, GK L i w → (execOp a.eval oi).run P w = .ok (.value v) w) (h : wpAnyG P md ops Q (GK L) f (done.setIfInBounds i true) (a.put d v) w) (hw : Region.wanted oi (yielded ops a.tmps) = true := by rfl) (hS : ∀ p ∈ L, p.1 ≠ i := by simp) (hsh : shutB md ops done = true := by kernel_rfl) (hs : Region.noSelect ops = true := by kernel_rfl) (hf : Region.free md ops done i = true := by kernel_rfl)
 (hr : (Region.ready md ops done).contains i = true := by kernel_rfl) (hd : oi.dst = d := by rfl) (hQ : ∀ c a w, Q (.panic c) (a.put oi.dst v) w → Q (.panic c) a w := by exact fun _ _ _ h => h) : wpAnyG P md ops Q (GK L) (f + 1) done a w :=
 take_G i v d (GK.grow _) hsh hi hs hf hr hd hQ (YieldsIf.toG (Or.inl ⟨hw, hy⟩)) (GK.drop hS) h
end
section
open Go.ChangeShapes Go.WideShapes Go.ChangeAt Go.RowKit
theorem fm_len {α : Type} (f : α → List Value) (sz : Nat) (hf : ∀ x, (f x).length = sz) (l : List α) : (l.flatMap f).length = l.length * sz := by
 induction l with
 | nil => simp
 | cons x l ih => rw [List.flatMap_cons, List.length_append, ih, hf, List.length_cons, Nat.succ_mul]; omega
theorem fm_get {α : Type} (f : α → List Value) (sz : Nat) (hf : ∀ x, (f x).length = sz) (l : List α) (i j : Nat) (hi : i < l.length) (hj : j < sz) : (l.flatMap f)[i * sz + j]? = (f l[i])[j]? := by
 induction l generalizing i with
 | nil => simp at hi
 | cons x l ih =>
  cases i with
  | zero =>
   rw [List.flatMap_cons, Nat.zero_mul, Nat.zero_add, List.getElem?_append_left (by rw [hf]; exact hj)]; rfl
  | succ i =>
   rw [List.flatMap_cons, List.getElem?_append_right (by rw [hf, Nat.succ_mul]; omega), hf]
   have := ih i (by simpa using hi)
   rw [← show (i * sz + j) = (i + 1) * sz + j - sz by rw [Nat.succ_mul]; omega, this]
   rfl
theorem Rd.at_ {w : World} {size n : Nat} {A : Option Addr} {α : Type} {f : α → List Value} {l : List α} (h : Rd w size A l.length (l.flatMap f)) (hf : ∀ x, (f x).length = size) {i : Nat} (hi : i < l.length) :
  ∃ b off, A = some ⟨b, off, none⟩ ∧ b < w.heap.size ∧ ∀ j u, (f l[i])[j]? = some u → w.cell? ⟨b, off + i * size + j, none⟩ = some u := by
 obtain ⟨b, off, e, hl, hc⟩ := h.2 (by omega)
 refine ⟨b, off, e, hl, fun j u hu => ?_⟩
 have hj : j < size := by
  have := (List.getElem?_eq_some_iff.1 hu).1
  rw [hf] at this; exact this
 rw [Nat.add_assoc]
 exact hc (i * size + j) u (by rw [fm_get f size hf l i j hi hj]; exact hu)
theorem Rd.mk_ {w : World} {size : Nat} {A : Option Addr} {α : Type} {f : α → List Value} {l : List α} (hs : 0 < size) (hf : ∀ x, (f x).length = size)
  (h : ∀ i (hi : i < l.length), ∃ b off, A = some ⟨b, off, none⟩ ∧ b < w.heap.size ∧ ∀ j u, (f l[i])[j]? = some u → w.cell? ⟨b, off + i * size + j, none⟩ = some u) : Rd w size A l.length (l.flatMap f) := by
 refine ⟨fm_len f size hf l, fun hn => ?_⟩
 obtain ⟨b, off, e, hl, _⟩ := h 0 hn
 refine ⟨b, off, e, hl, fun j u hu => ?_⟩
 have hj : j < l.length * size := by
  have := (List.getElem?_eq_some_iff.1 hu).1
  rw [fm_len f size hf l] at this; exact this
 have hd : j / size < l.length := (Nat.div_lt_iff_lt_mul hs).2 hj
 have hm : j % size < size := Nat.mod_lt _ hs
 have hjj : j / size * size + j % size = j := Nat.div_add_mod' j size
 obtain ⟨b', off', e', _, hc⟩ := h (j / size) hd
 rw [e] at e'
 injection e' with e'
 injection e' with e1 e2
 subst e1 e2
 have := hc (j % size) u (by rw [← fm_get f size hf l _ _ hd hm, hjj]; exact hu)
 rwa [Nat.add_assoc, hjj] at this
section
variable {P : Program} (w : World)
end
abbrev RT (w : World) (A : Option Addr) (l : List Vr) : Prop := Rd w 8 A l.length (vrc l)
theorem RT.at_ {w : World} {A : Option Addr} {l : List Vr} (h : RT w A l) {i : Nat} (hi : i < l.length) : ∃ b off, A = some ⟨b, off, none⟩ ∧ b < w.heap.size ∧
  w.cell? ⟨b, off + i * 8, none⟩ = some (.int .i64 l[i].t) ∧ w.cell? ⟨b, off + i * 8 + 1, none⟩ = some (.int .i64 l[i].c) ∧ w.cell? ⟨b, off + i * 8 + 2, none⟩ = some (.int .i64 l[i].i) ∧ w.cell? ⟨b, off + i * 8 + 3, none⟩ = some (.int .i64 l[i].j) ∧
  w.cell? ⟨b, off + i * 8 + 4, none⟩ = some (.int .i64 l[i].re) ∧ w.cell? ⟨b, off + i * 8 + 5, none⟩ = some (.int .i64 l[i].im) ∧ w.cell? ⟨b, off + i * 8 + 6, none⟩ = some (.int .i64 l[i].dn) ∧ w.cell? ⟨b, off + i * 8 + 7, none⟩ = some (.int .i64 l[i].n) := by
 obtain ⟨b, off, e, hl, hc⟩ := Rd.at_ (n := 0) h vr8_len hi
 exact ⟨b, off, e, hl, hc 0 _ rfl, hc 1 _ rfl, hc 2 _ rfl, hc 3 _ rfl, hc 4 _ rfl, hc 5 _ rfl, hc 6 _ rfl, hc 7 _ rfl⟩
end
section
open Go.ChangeShapes Go.WideShapes Go.ChangeAt Go.RowKit Cxm
theorem wgcd_calls (a b : Int) (ha : -4000000000000000000 ≤ a) (ha' : a ≤ 4000000000000000000) (hb : -4000000000000000000 ≤ b) (hb' : b ≤ 4000000000000000000) (w : World) :
  Calls Tryz.prog 122 #[.int .i64 a, .int .i64 b] w fun e w' => e = .returned (.int .i64 (g2 a b)) ∧ ∃ m, w' = w.drewN m := by
 generalize hg : g2 a b = g
 have HG := zh hg
 clear hg
 go_enter Tryz.func122, Tryz.ntmps122
 go_wp2
 go_loopw [0, 1] (fun p q wr => ∃ x y : Int, ∃ n : Nat, p = .int .i64 x ∧ q = .int .i64 y ∧ wr = w.drewN n ∧ Hid (g2 x y = g) ∧ -4000000000000000000 ≤ x ∧ x ≤ 4000000000000000000 ∧ -4000000000000000000 ≤ y ∧ y ≤ 4000000000000000000) (fun _ q _ => (intOf q).natAbs)
 case atStart => exact ⟨a, b, 0, rfl, rfl, rfl, HG, by omega, by omega, by omega, by omega⟩
 case round =>
  obtain ⟨x, y, n, rfl, rfl, rfl, HX, h1, h2, h3, h4⟩ := hrel
  by_cases hy : y = 0
  ·have hy' : (y != 0) = false := by simp [hy]
   have HY := zh hy
   clear hy
   go_wp2
   all_goals
    go_ret
    refine ⟨ret_int ?_, n, rfl⟩
    have e := HX.out
    rw [HY.out, g2_zero] at e
    omega
  ·have hy' : (y != 0) = true := by simp [hy]
   have HY := zh hy
   clear hy
   have hb := tmod_bd x y HY.out
   have HS := zh (g2_step x y)
   have hw : IntKind.i64.wrap (x.tmod y) = x.tmod y := IntWalk.i64_in _ (by omega)
   go_wp2
   go_quiet (fail)
   go_wp2
   refine ⟨⟨y, x.tmod y, n + nq, rfl, rfl, by rw [World.drewN_drewN], zh (by rw [HS.out]; exact HX.out), by omega, by omega, by omega, by omega⟩, ?_⟩
   simp only [intOf]; omega
theorem fits_calls (a : Int) (w : World) :
  Calls Tryz.prog 121 #[.int .i64 a] w fun e w' => e = .returned (.bool (fitsB a)) ∧ ∃ m, w' = w.drewN m := by
 by_cases h : -1000000000 ≤ a
 all_goals
  go_enter Tryz.func121, Tryz.ntmps121
  go_wp2
  go_ret
  refine ⟨?_, 0, rfl⟩
  simp [fitsB, h]
  try omega
theorem fits_bd {x : Int} (h : fitsB x = true) : -1000000000 ≤ x ∧ x ≤ 1000000000 := by simpa [fitsB] using h
theorem isWeight_calls (n : Int) (w : World) : Calls Tryz.prog 91 #[.int .i64 n] w fun e w' => e = .returned (.bool (decide (0 ≤ n) && decide (n ≤ 1000000))) ∧ ∃ m, w' = w.drewN m := by
 by_cases h : 0 ≤ n
 all_goals
  go_enter Tryz.func91, Tryz.ntmps91
  go_wp2
  go_ret
  refine ⟨?_, 0, rfl⟩
  simp [h]
  try omega
theorem isValue_calls (re im dn : Int) (w : World) : Calls Tryz.prog 105 #[.agg #[.int .i64 re, .int .i64 im, .int .i64 dn]] w fun e w' => e = .returned (.bool (chkB re im dn)) ∧ Below w.heap.size w w' := by
 generalize hv : chkB re im dn = v
 have hc : dn < 1 ∨ (1 ≤ dn ∧ 1000000000 < dn) ∨ (1 ≤ dn ∧ dn ≤ 1000000000) := by omega
 have FI : Hid (∀ x : Int, ∀ W : World, Calls Tryz.prog 121 #[.int .i64 x] W fun e w' => e = .returned (.bool (fitsB x)) ∧ ∃ m, w' = W.drewN m) := zh fun x W => fits_calls x W
 rcases hc with c | ⟨c, c2⟩ | ⟨c, c2⟩
 ·have F : v = false := by rw [← hv]; unfold chkB; rw [decide_eq_false (by omega)]; rfl
  have HF := zh F
  have d1 : decide (1 ≤ dn) = false := by simpa using c
  clear F hv FI
  go_enter Tryz.func105, Tryz.ntmps105
  go_wp2_with fail
  go_quiet (fail)
  go_wp2_with fail
  go_ret
  exact ⟨ret_bool HF.out.symm, below_drewN (Bal (Below.refl _ _) _) _⟩
 ·have F : v = false := by rw [← hv]; unfold chkB; rw [decide_eq_false (by omega)]; rfl
  have HF := zh F
  have d1 : decide (1 ≤ dn) = true := by simpa using c
  have d2 : decide (dn ≤ 1000000000) = false := by simpa using c2
  clear F hv FI
  go_enter Tryz.func105, Tryz.ntmps105
  go_wp2_with fail
  go_quiet (fail)
  go_wp2_with fail
  go_ret
  exact ⟨ret_bool HF.out.symm, below_drewN (Bal (Below.refl _ _) _) _⟩
 have d1 : decide (1 ≤ dn) = true := by simpa using c
 have d2 : decide (dn ≤ 1000000000) = true := by simpa using c2
 have hv1 : (fitsB re && (fitsB im && decide (g3 re im dn = 1))) = v := by rw [← hv]; unfold chkB; rw [decide_eq_true (by omega : 1 ≤ dn ∧ dn ≤ 1000000000)]; rfl
 clear hv
 have F1 := FI.out re
 cases hr : fitsB re
 ·have HF : Hid (v = false) := zh (by rw [← hv1, hr]; rfl)
  rw [hr] at F1
  have HF1 := zh F1
  clear hv1 FI F1 hr
  go_enter Tryz.func105, Tryz.ntmps105
  go_wp2_with fail
  go_quiet ((go_at_call 121; (with_reducible exact quiet_more (HF1.out _))))
  go_wp2_with fail
  go_ret
  exact ⟨ret_bool HF.out.symm, below_drewN (Bal (Below.refl _ _) _) _⟩
 have F2 := FI.out im
 cases hi : fitsB im
 ·have HF : Hid (v = false) := zh (by rw [← hv1, hr, hi]; rfl)
  rw [hr] at F1
  rw [hi] at F2
  have HF1 := zh F1
  have HF2 := zh F2
  clear hv1 FI F1 F2 hr hi
  go_enter Tryz.func105, Tryz.ntmps105
  go_wp2_with fail
  go_quiet ((first | (go_at_call 121; (with_reducible exact quiet_more (HF1.out _))) | (go_at_call 121; (with_reducible exact quiet_more (HF2.out _)))))
  go_wp2_with fail
  go_ret
  exact ⟨ret_bool HF.out.symm, below_drewN (Bal (Below.refl _ _) _) _⟩
 have b1 := fits_bd hr
 have b2 := fits_bd hi
 have gb := g2_bd re im 1000000000 (by omega) (by omega)
 have gn := g2_nonneg re im
 have G1 : Hid (∀ W : World, Calls Tryz.prog 122 #[.int .i64 re, .int .i64 im] W fun e w' => e = .returned (.int .i64 (g2 re im)) ∧ ∃ m, w' = W.drewN m) := zh fun W => wgcd_calls re im (by omega) (by omega) (by omega) (by omega) W
 have hv2 : decide (g3 re im dn = 1) = v := by rw [← hv1, hr, hi]; rfl
 unfold g3 at hv2
 generalize g2 re im = x at *
 have G2 : Hid (∀ W : World, Calls Tryz.prog 122 #[.int .i64 x, .int .i64 dn] W fun e w' => e = .returned (.int .i64 (g2 x dn)) ∧ ∃ m, w' = W.drewN m) := zh fun W => wgcd_calls x dn (by omega) (by omega) (by omega) (by omega) W
 generalize g2 x dn = y at *
 have HF := zh hv2
 rw [hr] at F1
 rw [hi] at F2
 have HF1 := zh F1
 have HF2 := zh F2
 clear hv1 hv2 FI F1 F2 hr hi b1 b2 gb gn
 go_enter Tryz.func105, Tryz.ntmps105
 go_wp2_with fail
 go_quiet ((first | (go_at_call 121; (with_reducible exact quiet_more (HF1.out _))) | (go_at_call 121; (with_reducible exact quiet_more (HF2.out _))) | (go_at_call 122; (with_reducible exact quiet_more (G1.out _))) | (go_at_call 122; (with_reducible exact quiet_more (G2.out _)))))
 go_wp2_with fail
 go_ret
 exact ⟨ret_bool HF.out, below_drewN (Bal (Below.refl _ _) _) _⟩
end
section
open Go.ChangeShapes Go.WideShapes Go.ChangeAt Go.RowKit Cxm
def visE (r : Vr) : Int := bif visB r then 0 else 8
theorem visE_zero (r : Vr) : decide (visE r = 0) = visB r := by unfold visE; cases visB r <;> rfl
theorem wcheck_calls (r : Vr) (w : World) : Calls Tryz.prog 77 #[Wv r] w fun e w' => e = .returned (.int .i64 (visE r)) ∧ Below w.heap.size w w' := by
 obtain ⟨t, c, i, j, re, im, dn, n⟩ := r
 have IV : Hid (∀ W : World, Calls Tryz.prog 105 #[.agg #[.int .i64 re, .int .i64 im, .int .i64 dn]] W fun e w' => e = .returned (.bool (chkB re im dn)) ∧ Below W.heap.size W w') := zh (isValue_calls re im dn)
 have IW : Hid (∀ W : World, Calls Tryz.prog 91 #[.int .i64 n] W fun e w' => e = .returned (.bool (decide (0 ≤ n) && decide (n ≤ 1000000))) ∧ Below W.heap.size W w') := zh (fun W => (isWeight_calls n W).mono fun _ _ ⟨h, m, hm⟩ => ⟨h, hm ▸ below_drewN (Below.refl _ _) _⟩)
 generalize hv : visE ⟨t, c, i, j, re, im, dn, n⟩ = v
 simp only [visE, visB, valB] at hv
 generalize chkB re im dn = b1 at *
 generalize hb2 : (decide (0 ≤ n) && decide (n ≤ 1000000)) = b2 at *
 have HV := zh hv
 have NN := zh (Below.refl w.heap.size w)
 clear hv hb2
 have hc : i < 0 ∨ (0 ≤ i ∧ j ≤ i) ∨ (0 ≤ i ∧ i < j ∧ 8 ≤ j) ∨ (0 ≤ i ∧ i < j ∧ j < 8) := by omega
 rcases hc with h | ⟨h, h'⟩ | ⟨h, h', h''⟩ | ⟨h, h', h''⟩
 ·have F : Hid (v = 8) := zh (by rw [← HV.out, decide_eq_false (by omega : ¬ 0 ≤ i)]; rfl)
  clear HV IV IW
  go_enter Tryz.func77, Tryz.ntmps77
  go_wp2_with fail
  go_ret
  exact ⟨ret_int F.out.symm, Bal NN.out _⟩
 ·have F : Hid (v = 8) := zh (by rw [← HV.out, decide_eq_true h, decide_eq_false (by omega : ¬ i < j)]; rfl)
  clear HV IV IW
  go_enter Tryz.func77, Tryz.ntmps77
  go_wp2_with fail
  go_ret
  exact ⟨ret_int F.out.symm, Bal NN.out _⟩
 ·have F : Hid (v = 8) := zh (by rw [← HV.out, decide_eq_true h, decide_eq_true h', decide_eq_false (by omega : ¬ j < 8)]; rfl)
  clear HV IV IW
  go_enter Tryz.func77, Tryz.ntmps77
  go_wp2_with fail
  go_ret
  exact ⟨ret_int F.out.symm, Bal NN.out _⟩
 ·have F : Hid ((bif b1 && b2 then 0 else 8) = v) := zh (by rw [← HV.out, decide_eq_true h, decide_eq_true h', decide_eq_true h'']; rfl)
  clear HV
  go_enter Tryz.func77, Tryz.ntmps77
  go_wp2_with fail
  have V0 : Hid ((w.alloc (.cells #[.int .i64 i, .int .i64 j, .int .i64 re, .int .i64 im, .int .i64 dn, .int .i64 n] 42)).heap[w.heap.size]? = some (.cells #[.int .i64 i, .int .i64 j, .int .i64 re, .int .i64 im, .int .i64 dn, .int .i64 n] 42)) := zh (blk_new w _)
  replace NN : Hid (Below w.heap.size w (w.alloc (.cells #[.int .i64 i, .int .i64 j, .int .i64 re, .int .i64 im, .int .i64 dn, .int .i64 n] 42))) := zh (Bal NN.out _)
  generalize (w.alloc (.cells #[.int .i64 i, .int .i64 j, .int .i64 re, .int .i64 im, .int .i64 dn, .int .i64 n] 42)) = W1 at *
  obtain ⟨c_V0_0, f_V0_0, c_V0_1, f_V0_1, c_V0_2, f_V0_2, c_V0_3, f_V0_3, c_V0_4, f_V0_4, c_V0_5, f_V0_5, l_V0⟩ := zfl6 V0
  go_wp2_with fail
  refine (IV.out _).mono ?_
  rintro e w2 ⟨rfl, hb⟩
  clear c_V0_0 f_V0_0 c_V0_1 f_V0_1 c_V0_2 f_V0_2 c_V0_3 f_V0_3 c_V0_4 f_V0_4 c_V0_5 f_V0_5 l_V0
  replace NN := zh (Bgo NN.out hb)
  replace V0 := zn hb V0
  clear hb
  obtain ⟨c_V0_0, f_V0_0, c_V0_1, f_V0_1, c_V0_2, f_V0_2, c_V0_3, f_V0_3, c_V0_4, f_V0_4, c_V0_5, f_V0_5, l_V0⟩ := zfl6 V0
  cases b1
  ·clear IV IW
   go_wp2_with fail
   clear c_V0_0 f_V0_0 c_V0_1 f_V0_1 c_V0_2 f_V0_2 c_V0_3 f_V0_3 c_V0_4 f_V0_4 c_V0_5 f_V0_5 l_V0
   go_ret
   exact ⟨ret_int F.out, NN.out⟩
  ·clear IV
   go_wp2_with fail
   refine (IW.out _).mono ?_
   rintro e w3 ⟨rfl, hb⟩
   clear c_V0_0 f_V0_0 c_V0_1 f_V0_1 c_V0_2 f_V0_2 c_V0_3 f_V0_3 c_V0_4 f_V0_4 c_V0_5 f_V0_5 l_V0
   replace NN := zh (Bgo NN.out hb)
   replace V0 := zn hb V0
   clear hb
   cases b2 <;> (clear IW; go_wp2_with fail; go_ret; exact ⟨ret_int F.out, NN.out⟩)
theorem g3_alt (a b c : Int) : g2 b (g2 a c) = g3 a b c := by
 have h1 := g2_nonneg b (g2 a c)
 have h2 := g3_nonneg a b c
 have h3 : (g2 b (g2 a c)).natAbs = (g3 a b c).natAbs := by
  rw [g2_nat, g2_nat, g3_nat]
  rw [← Nat.gcd_assoc, Nat.gcd_comm b.natAbs]
 omega
theorem g2_abs_right (a b : Int) : g2 a (b.natAbs : Int) = g2 a b := by unfold g2 Int.gcd; simp
theorem common_calls (a b c : Int) (ha : -1000000000 ≤ a) (ha' : a ≤ 1000000000) (hb : -1000000000 ≤ b) (hb' : b ≤ 1000000000) (hc : 1 ≤ c) (hc' : c ≤ 1000000000) (w : World) :
  Calls Tryz.prog 68 #[.int .i64 a, .int .i64 b, .int .i64 c] w fun e w' => e = .returned (.int .i64 (g3 a b c)) ∧ Below w.heap.size w w' := by
 obtain ⟨g, hg⟩ : ∃ g, g2 a c = g := ⟨_, rfl⟩
 have hv := g3_alt a b c
 generalize g3 a b c = v at *
 rw [hg] at hv
 have HG := zh hg
 have HV := zh hv
 have NN := zh (Below.refl w.heap.size w)
 clear hg hv
 go_enter Tryz.func68, Tryz.ntmps68
 go_wp2
 go_loopw [0, 2] (fun p q wr => ∃ x z : Int, p = .int .i64 x ∧ q = .int .i64 z ∧ w = wr ∧ Hid (g2 x z = g) ∧ -1000000000 ≤ x ∧ x ≤ 1000000000 ∧ -1000000000 ≤ z ∧ z ≤ 1000000000) (fun p _ _ => (intOf p).natAbs)
 case atStart => exact ⟨a, c, rfl, rfl, rfl, HG, by omega, by omega, by omega, by omega⟩
 case round =>
  obtain ⟨x, z, rfl, rfl, rfl, HX, h1, h2, h3, h4⟩ := hrel
  by_cases hx : x = 0
  ·subst hx
   have hx' : ((0 : Int) != 0) = false := rfl
   have HZ : Hid (g2 b z = v) := zh (by
    have e := HX.out
    rw [g2_comm, g2_zero] at e
    rw [← HV.out, ← e, g2_abs_right])
   clear HX HG HV h1 h2
   go_wp2
   go_loopw [1, 2] (fun p q wr => ∃ y t : Int, p = .int .i64 y ∧ q = .int .i64 t ∧ w = wr ∧ Hid (g2 y t = v) ∧ -1000000000 ≤ y ∧ y ≤ 1000000000 ∧ -1000000000 ≤ t ∧ t ≤ 1000000000) (fun p _ _ => (intOf p).natAbs)
   case atStart => exact ⟨b, z, rfl, rfl, rfl, HZ, by omega, by omega, by omega, by omega⟩
   case round =>
    obtain ⟨y, t, rfl, rfl, rfl, HY, k1, k2, k3, k4⟩ := hrel
    by_cases hy : y = 0
    ·subst hy
     have hy' : ((0 : Int) != 0) = false := rfl
     have e := HY.out
     rw [g2_comm, g2_zero] at e
     have HE := zh e
     have hn : IntKind.i64.wrap (-t) = -t := IntWalk.i64_in _ (by omega)
     clear e HY HZ
     go_wp2
     all_goals
      go_ret
      refine ⟨ret_int ?_, NN.out⟩
      have e := HE.out
      omega
    ·have hy' : (y != 0) = true := by simp [hy]
     have HN := zh hy
     clear hy
     have hb := tmod_bd t y HN.out
     have HS := zh (g2_step t y)
     have hw : IntKind.i64.wrap (t.tmod y) = t.tmod y := IntWalk.i64_in _ (by omega)
     go_wp2
     refine ⟨⟨t.tmod y, y, rfl, rfl, trivial, zh (by rw [g2_comm, HS.out, g2_comm]; exact HY.out), by omega, by omega, by omega, by omega⟩, ?_⟩
     simp only [intOf]; omega
  ·have hx' : (x != 0) = true := by simp [hx]
   have HN := zh hx
   clear hx
   have hb := tmod_bd z x HN.out
   have HS := zh (g2_step z x)
   have hw : IntKind.i64.wrap (z.tmod x) = z.tmod x := IntWalk.i64_in _ (by omega)
   go_wp2
   refine ⟨⟨z.tmod x, x, rfl, rfl, trivial, zh (by rw [g2_comm, HS.out, g2_comm]; exact HX.out), by omega, by omega, by omega, by omega⟩, ?_⟩
   simp only [intOf]; omega
theorem refValid_calls (re im dn : Int) (w : World) : Calls Tryz.prog 49 #[.agg #[.int .i64 re, .int .i64 im, .int .i64 dn]] w fun e w' => e = .returned (.bool (chkB re im dn)) ∧ Below w.heap.size w w' := by
 generalize hv : chkB re im dn = v
 have NN := zh (Below.refl w.heap.size w)
 by_cases c : 1 ≤ dn ∧ dn ≤ 1000000000 ∧ -1000000000 ≤ re ∧ re ≤ 1000000000 ∧ -1000000000 ≤ im ∧ im ≤ 1000000000
 ·obtain ⟨c1, c2, c3, c4, c5, c6⟩ := c
  have hv1 : decide (g3 re im dn = 1) = v := by rw [← hv]; unfold chkB fitsB; rw [decide_eq_true (show 1 ≤ dn ∧ dn ≤ 1000000000 from ⟨c1, c2⟩), decide_eq_true (show -1000000000 ≤ re ∧ re ≤ 1000000000 from ⟨c3, c4⟩), decide_eq_true (show -1000000000 ≤ im ∧ im ≤ 1000000000 from ⟨c5, c6⟩)]; rfl
  have CC := zh (common_calls re im dn c3 c4 c5 c6 c1 c2)
  generalize g3 re im dn = g at *
  have HV := zh hv1
  clear hv hv1
  go_enter Tryz.func49, Tryz.ntmps49
  go_wp2_with fail
  have V0 : Hid ((w.alloc (.cells #[.int .i64 re, .int .i64 im, .int .i64 dn] 40)).heap[w.heap.size]? = some (.cells #[.int .i64 re, .int .i64 im, .int .i64 dn] 40)) := zh (blk_new w _)
  replace NN : Hid (Below w.heap.size w (w.alloc (.cells #[.int .i64 re, .int .i64 im, .int .i64 dn] 40))) := zh (Bal NN.out _)
  generalize (w.alloc (.cells #[.int .i64 re, .int .i64 im, .int .i64 dn] 40)) = W1 at *
  obtain ⟨c_V0_0, f_V0_0, c_V0_1, f_V0_1, c_V0_2, f_V0_2, l_V0⟩ := zfl3 V0
  go_wp2_with fail
  refine (CC.out _).mono ?_
  rintro e w2 ⟨rfl, hb⟩
  clear c_V0_0 f_V0_0 c_V0_1 f_V0_1 c_V0_2 f_V0_2 l_V0
  replace NN := zh (Bgo NN.out hb)
  replace V0 := zn hb V0
  clear hb
  go_wp2_with fail
  go_ret
  exact ⟨ret_bool HV.out, NN.out⟩
 ·have HV : Hid (v = false) := zh (by
   rw [← hv]
   cases h : chkB re im dn
   ·rfl
   ·have := chk_iff.1 h; omega)
  have hc : dn < 1 ∨ (1 ≤ dn ∧ 1000000000 < dn) ∨ (1 ≤ dn ∧ dn ≤ 1000000000 ∧ re < -1000000000) ∨ (1 ≤ dn ∧ dn ≤ 1000000000 ∧ -1000000000 ≤ re ∧ 1000000000 < re) ∨ (1 ≤ dn ∧ dn ≤ 1000000000 ∧ -1000000000 ≤ re ∧ re ≤ 1000000000 ∧ im < -1000000000) ∨ (1 ≤ dn ∧ dn ≤ 1000000000 ∧ -1000000000 ≤ re ∧ re ≤ 1000000000 ∧ -1000000000 ≤ im ∧ 1000000000 < im) := by omega
  clear c hv
  rcases hc with h | ⟨h, h1⟩ | ⟨h, h1, h2⟩ | ⟨h, h1, h2, h3⟩ | ⟨h, h1, h2, h3, h4⟩ | ⟨h, h1, h2, h3, h4, h5⟩
  all_goals
   go_enter Tryz.func49, Tryz.ntmps49
   go_wp2_with fail
   go_ret
   exact ⟨ret_bool HV.out.symm, Bal NN.out _⟩
theorem rcheck_calls (r : Vr) (w : World) : Calls Tryz.prog 26 #[Wv r] w fun e w' => e = .returned (.int .i64 (visE r)) ∧ Below w.heap.size w w' := by
 obtain ⟨t, c, i, j, re, im, dn, n⟩ := r
 have IV : Hid (∀ W : World, Calls Tryz.prog 49 #[.agg #[.int .i64 re, .int .i64 im, .int .i64 dn]] W fun e w' => e = .returned (.bool (chkB re im dn)) ∧ Below W.heap.size W w') := zh (refValid_calls re im dn)
 generalize hv : visE ⟨t, c, i, j, re, im, dn, n⟩ = v
 simp only [visE, visB, valB] at hv
 generalize chkB re im dn = b1 at *
 have HV := zh hv
 have NN := zh (Below.refl w.heap.size w)
 clear hv
 have hc : i < 0 ∨ (0 ≤ i ∧ j ≤ i) ∨ (0 ≤ i ∧ i < j ∧ 8 ≤ j) ∨ (0 ≤ i ∧ i < j ∧ j < 8) := by omega
 rcases hc with h | ⟨h, h'⟩ | ⟨h, h', h''⟩ | ⟨h, h', h''⟩
 ·have F : Hid (v = 8) := zh (by rw [← HV.out, decide_eq_false (by omega : ¬ 0 ≤ i)]; rfl)
  clear HV IV
  go_enter Tryz.func26, Tryz.ntmps26
  go_wp2_with fail
  go_ret
  exact ⟨ret_int F.out.symm, Bal NN.out _⟩
 ·have F : Hid (v = 8) := zh (by rw [← HV.out, decide_eq_true h, decide_eq_false (by omega : ¬ i < j)]; rfl)
  clear HV IV
  go_enter Tryz.func26, Tryz.ntmps26
  go_wp2_with fail
  go_ret
  exact ⟨ret_int F.out.symm, Bal NN.out _⟩
 ·have F : Hid (v = 8) := zh (by rw [← HV.out, decide_eq_true h, decide_eq_true h', decide_eq_false (by omega : ¬ j < 8)]; rfl)
  clear HV IV
  go_enter Tryz.func26, Tryz.ntmps26
  go_wp2_with fail
  go_ret
  exact ⟨ret_int F.out.symm, Bal NN.out _⟩
 ·have F : Hid ((bif b1 && (decide (0 ≤ n) && decide (n ≤ 1000000)) then 0 else 8) = v) := zh (by rw [← HV.out, decide_eq_true h, decide_eq_true h', decide_eq_true h'']; rfl)
  clear HV
  go_enter Tryz.func26, Tryz.ntmps26
  go_wp2_with fail
  have V0 : Hid ((w.alloc (.cells #[.int .i64 i, .int .i64 j, .int .i64 re, .int .i64 im, .int .i64 dn, .int .i64 n] 42)).heap[w.heap.size]? = some (.cells #[.int .i64 i, .int .i64 j, .int .i64 re, .int .i64 im, .int .i64 dn, .int .i64 n] 42)) := zh (blk_new w _)
  replace NN : Hid (Below w.heap.size w (w.alloc (.cells #[.int .i64 i, .int .i64 j, .int .i64 re, .int .i64 im, .int .i64 dn, .int .i64 n] 42))) := zh (Bal NN.out _)
  generalize (w.alloc (.cells #[.int .i64 i, .int .i64 j, .int .i64 re, .int .i64 im, .int .i64 dn, .int .i64 n] 42)) = W1 at *
  obtain ⟨c_V0_0, f_V0_0, c_V0_1, f_V0_1, c_V0_2, f_V0_2, c_V0_3, f_V0_3, c_V0_4, f_V0_4, c_V0_5, f_V0_5, l_V0⟩ := zfl6 V0
  go_wp2_with fail
  refine (IV.out _).mono ?_
  rintro e w2 ⟨rfl, hb⟩
  clear c_V0_0 f_V0_0 c_V0_1 f_V0_1 c_V0_2 f_V0_2 c_V0_3 f_V0_3 c_V0_4 f_V0_4 c_V0_5 f_V0_5 l_V0
  replace NN := zh (Bgo NN.out hb)
  replace V0 := zn hb V0
  clear hb
  obtain ⟨c_V0_0, f_V0_0, c_V0_1, f_V0_1, c_V0_2, f_V0_2, c_V0_3, f_V0_3, c_V0_4, f_V0_4, c_V0_5, f_V0_5, l_V0⟩ := zfl6 V0
  cases b1
  ·clear IV
   go_wp2_with fail
   clear c_V0_0 f_V0_0 c_V0_1 f_V0_1 c_V0_2 f_V0_2 c_V0_3 f_V0_3 c_V0_4 f_V0_4 c_V0_5 f_V0_5 l_V0
   go_ret
   exact ⟨ret_int F.out, NN.out⟩
  ·clear IV
   have hn : n < 0 ∨ (0 ≤ n ∧ n ≤ 1000000) ∨ (0 ≤ n ∧ 1000000 < n) := by omega
   rcases hn with hn | ⟨hn, hn'⟩ | ⟨hn, hn'⟩
   ·replace F := zh (by have f := F.out; rw [decide_eq_false (by omega : ¬ 0 ≤ n)] at f; exact f)
    go_wp2_with fail
    go_ret
    exact ⟨ret_int F.out, NN.out⟩
   ·replace F := zh (by have f := F.out; rw [decide_eq_true hn, decide_eq_true hn'] at f; exact f)
    go_wp2_with fail
    go_ret
    exact ⟨ret_int F.out, NN.out⟩
   ·replace F := zh (by have f := F.out; rw [decide_eq_true hn, decide_eq_false (by omega : ¬ n ≤ 1000000)] at f; exact f)
    go_wp2_with fail
    go_ret
    exact ⟨ret_int F.out, NN.out⟩
end
section
open Go.ChangeShapes Go.WideShapes Go.ChangeAt Go.RowKit
attribute [local go_sem ↓] Go.wp_at_zero Go.wp_at_succ
theorem visE_row {r : Vr} (h : rowB r = true) : visE r = 0 := by
 simp only [rowB, Bool.and_eq_true] at h
 unfold visE
 rw [h.2.2.2.2]; rfl
theorem val_lim {r : Vr} (h : Cxm.chkB r.re r.im r.dn = true) : -1000000000 ≤ r.re ∧ r.re ≤ 1000000000 ∧ -1000000000 ≤ r.im ∧ r.im ≤ 1000000000 ∧ 1 ≤ r.dn ∧ r.dn ≤ 1000000000 := by
 simp only [Cxm.chkB, Cxm.fitsB, Bool.and_eq_true, decide_eq_true_eq] at h
 omega
theorem parts_calls {r : Vr} (h : rowB r = true) (w : World) : Calls Tryz.prog 51 #[Wv r] w fun e w' => e = .returned (.tuple #[Fv (makeF r.re r.dn).1 (makeF r.re r.dn).2.1, Fv (makeF r.im r.dn).1 (makeF r.im r.dn).2.1, .int .i64 0]) ∧ Below w.heap.size w w' := by
 have NN := zh (Below.refl w.heap.size w)
 obtain ⟨-, -, hc, ⟨n1, d1, e1, -, -⟩, ⟨n2, d2, e2, -, -⟩, -⟩ := rowB_val h
 have hl := val_lim hc
 have C0 := zh (fun W => wcheck_calls r W)
 rw [visE_row h] at C0
 have C1 := zh (fun W => make_calls r.re r.dn W (by omega) (by omega) (by omega) (by omega))
 have C2 := zh (fun W => make_calls r.im r.dn W (by omega) (by omega) (by omega) (by omega))
 rw [e1] at C1 ⊢
 rw [e2] at C2 ⊢
 simp only
 clear h hc hl e1 e2
 go_enter Tryz.func51, Tryz.ntmps51
 go_wp2_with fail
 have V : Hid ((((w.alloc (.cells #[.int .i64 r.i, .int .i64 r.j, .int .i64 r.re, .int .i64 r.im, .int .i64 r.dn, .int .i64 r.n] 42)).alloc (.cells #[.int .i64 0, .int .i64 0] 83)).alloc (.cells #[.int .i64 0, .int .i64 0] 83)).heap[w.heap.size]? = some (.cells #[.int .i64 r.i, .int .i64 r.j, .int .i64 r.re, .int .i64 r.im, .int .i64 r.dn, .int .i64 r.n] 42)) := zh (blk_alloc (blk_alloc (blk_new w _) _) _)
 have RE : Hid ((((w.alloc (.cells #[.int .i64 r.i, .int .i64 r.j, .int .i64 r.re, .int .i64 r.im, .int .i64 r.dn, .int .i64 r.n] 42)).alloc (.cells #[.int .i64 0, .int .i64 0] 83)).alloc (.cells #[.int .i64 0, .int .i64 0] 83)).heap[w.heap.size + 1]? = some (.cells #[.int .i64 0, .int .i64 0] 83)) := zh (blk_alloc (blk_at _ (by simp)) _)
 have IM : Hid ((((w.alloc (.cells #[.int .i64 r.i, .int .i64 r.j, .int .i64 r.re, .int .i64 r.im, .int .i64 r.dn, .int .i64 r.n] 42)).alloc (.cells #[.int .i64 0, .int .i64 0] 83)).alloc (.cells #[.int .i64 0, .int .i64 0] 83)).heap[w.heap.size + 1 + 1]? = some (.cells #[.int .i64 0, .int .i64 0] 83)) := zh (blk_at _ (by simp))
 replace NN : Hid (Below w.heap.size w (((w.alloc (.cells #[.int .i64 r.i, .int .i64 r.j, .int .i64 r.re, .int .i64 r.im, .int .i64 r.dn, .int .i64 r.n] 42)).alloc (.cells #[.int .i64 0, .int .i64 0] 83)).alloc (.cells #[.int .i64 0, .int .i64 0] 83))) := zh (Bal (Bal (Bal NN.out _) _) _)
 generalize (((w.alloc (.cells #[.int .i64 r.i, .int .i64 r.j, .int .i64 r.re, .int .i64 r.im, .int .i64 r.dn, .int .i64 r.n] 42)).alloc (.cells #[.int .i64 0, .int .i64 0] 83)).alloc (.cells #[.int .i64 0, .int .i64 0] 83)) = W1 at *
 obtain ⟨c_V_0, f_V_0, c_V_1, f_V_1, c_V_2, f_V_2, c_V_3, f_V_3, c_V_4, f_V_4, c_V_5, f_V_5, l_V⟩ := zfl6 V
 go_wp2_with fail
 clear c_V_0 f_V_0 c_V_1 f_V_1 c_V_2 f_V_2 c_V_3 f_V_3 c_V_4 f_V_4 c_V_5 f_V_5 l_V
 refine (C0.out _).mono ?_
 rintro e w2 ⟨rfl, hb⟩
 replace NN := zh (Bgo NN.out hb)
 replace V := zn hb V
 replace RE := zn hb RE
 replace IM := zn hb IM
 clear hb
 obtain ⟨c_V_0, f_V_0, c_V_1, f_V_1, c_V_2, f_V_2, c_V_3, f_V_3, c_V_4, f_V_4, c_V_5, f_V_5, l_V⟩ := zfl6 V
 obtain ⟨c_RE_0, f_RE_0, c_RE_1, f_RE_1, l_RE⟩ := zfl2 RE
 go_wp2_with fail
 clear c_V_0 f_V_0 c_V_1 f_V_1 c_V_2 f_V_2 c_V_3 f_V_3 c_V_4 f_V_4 c_V_5 f_V_5 l_V c_RE_0 f_RE_0 c_RE_1 f_RE_1 l_RE
 refine (C1.out _).mono ?_
 rintro e w3 ⟨rfl, hb⟩
 replace NN := zh (Bgo NN.out hb)
 replace V := zn hb V
 replace RE := zn hb RE
 replace IM := zn hb IM
 clear hb
 obtain ⟨c_RE_0, f_RE_0, c_RE_1, f_RE_1, l_RE⟩ := zfl2 RE
 obtain ⟨c_V_0, f_V_0, c_V_1, f_V_1, c_V_2, f_V_2, c_V_3, f_V_3, c_V_4, f_V_4, c_V_5, f_V_5, l_V⟩ := zfl6 V
 go_wp2_with fail
 clear c_RE_0 f_RE_0 c_RE_1 f_RE_1 l_RE c_V_0 f_V_0 c_V_1 f_V_1 c_V_2 f_V_2 c_V_3 f_V_3 c_V_4 f_V_4 c_V_5 f_V_5 l_V
 generalize hW : ((w3.setCell ⟨w.heap.size + 1, 0, none⟩ (.int .i64 n1)).setCell ⟨w.heap.size + 1, 1, none⟩ (.int .i64 d1)) = W4 at *
 replace V : Hid (W4.heap[w.heap.size]? = some (.cells #[.int .i64 r.i, .int .i64 r.j, .int .i64 r.re, .int .i64 r.im, .int .i64 r.dn, .int .i64 r.n] 42)) := zs hW (blk_set_other (blk_set_other (V.out) (by omega) 0 (.int .i64 n1)) (by omega) 1 (.int .i64 d1))
 replace RE : Hid (W4.heap[w.heap.size + 1]? = some (.cells #[.int .i64 n1, .int .i64 d1] 83)) := zs hW (blk_set (blk_set (RE.out) 0 (.int .i64 n1)) 1 (.int .i64 d1))
 replace IM : Hid (W4.heap[w.heap.size + 1 + 1]? = some (.cells #[.int .i64 0, .int .i64 0] 83)) := zs hW (blk_set_other (blk_set_other (IM.out) (by omega) 0 (.int .i64 n1)) (by omega) 1 (.int .i64 d1))
 replace NN := zt hW (p := Below _ _) (Bset1 (Bset1 (NN.out) (by omega) 0 (.int .i64 n1)) (by omega) 1 (.int .i64 d1))
 clear hW
 refine (C2.out _).mono ?_
 rintro e w5 ⟨rfl, hb⟩
 replace NN := zh (Bgo NN.out hb)
 replace V := zn hb V
 replace RE := zn hb RE
 replace IM := zn hb IM
 clear hb
 obtain ⟨c_IM_0, f_IM_0, c_IM_1, f_IM_1, l_IM⟩ := zfl2 IM
 go_upto_region 10 with fail
 clear c_IM_0 f_IM_0 c_IM_1 f_IM_1 l_IM
 generalize hW : ((w5.setCell ⟨w.heap.size + 1 + 1, 0, none⟩ (.int .i64 n2)).setCell ⟨w.heap.size + 1 + 1, 1, none⟩ (.int .i64 d2)) = W6 at *
 replace V : Hid (W6.heap[w.heap.size]? = some (.cells #[.int .i64 r.i, .int .i64 r.j, .int .i64 r.re, .int .i64 r.im, .int .i64 r.dn, .int .i64 r.n] 42)) := zs hW (blk_set_other (blk_set_other (V.out) (by omega) 0 (.int .i64 n2)) (by omega) 1 (.int .i64 d2))
 replace RE : Hid (W6.heap[w.heap.size + 1]? = some (.cells #[.int .i64 n1, .int .i64 d1] 83)) := zs hW (blk_set_other (blk_set_other (RE.out) (by omega) 0 (.int .i64 n2)) (by omega) 1 (.int .i64 d2))
 replace IM : Hid (W6.heap[w.heap.size + 1 + 1]? = some (.cells #[.int .i64 n2, .int .i64 d2] 83)) := zs hW (blk_set (blk_set (IM.out) 0 (.int .i64 n2)) 1 (.int .i64 d2))
 replace NN := zt hW (p := Below _ _) (Bset1 (Bset1 (NN.out) (by omega) 0 (.int .i64 n2)) (by omega) 1 (.int .i64 d2))
 clear hW
 have HDRW := zh (Below.drew (Below.refl W6.heap.size W6))
 replace NN := zh (Bgo NN.out HDRW.out)
 replace V := zn HDRW V
 replace RE := zn HDRW RE
 replace IM := zn HDRW IM
 clear HDRW
 have HAL : Hid (∀ kx9 : Nat, GK [(0, w.heap.size + 1, .cells #[.int .i64 n1, .int .i64 d1] 83), (1, w.heap.size + 1 + 1, .cells #[.int .i64 n2, .int .i64 d2] 83)] kx9 W6.drew) := zh (fun kx9 => fun px9 hp e => by
  simp only [List.mem_cons, List.not_mem_nil, or_false] at hp
  rcases hp with rfl | rfl
  ·exact RE.out
  ·exact IM.out
 )
 refine region_G (S := GK [(0, w.heap.size + 1, .cells #[.int .i64 n1, .int .i64 d1] 83), (1, w.heap.size + 1 + 1, .cells #[.int .i64 n2, .int .i64 d2] 83)]) (by kernel_rfl) ?_
 refine tG 0 (.agg #[.int .i64 n1, .int .i64 d1]) (some 43) (GK.grow _) rfl (YieldsIf.toG (Or.inl ⟨by rfl, ?_⟩)) (HAL.out 0) ?_
 ·intro X hX
  have hh := hX (0, w.heap.size + 1, .cells #[.int .i64 n1, .int .i64 d1] 83) (List.Mem.head _) rfl
  have hh0 := blk_cell hh 0 _ rfl
  have hh1 := blk_cell hh 1 _ rfl
  have hhl := blk_lt hh
  clear hh
  clear hX
  go_simp
 try simp only [Act.put, zA, zB, zC]
 refine tG 1 (.agg #[.int .i64 n2, .int .i64 d2]) (some 44) (GK.grow _) rfl (YieldsIf.toG (Or.inl ⟨by rfl, ?_⟩)) (HAL.out 1) ?_
 ·intro X hX
  have hh := hX (1, w.heap.size + 1 + 1, .cells #[.int .i64 n2, .int .i64 d2] 83) (List.Mem.tail _ (List.Mem.head _)) rfl
  have hh0 := blk_cell hh 0 _ rfl
  have hh1 := blk_cell hh 1 _ rfl
  have hhl := blk_lt hh
  clear hh
  clear hX
  go_simp
 try simp only [Act.put, zA, zB, zC]
 refine only_G 2 (by kernel_rfl) rfl (fun X7 hX K' hK' => ?_)
 replace NN := zh (Bgo NN.out hX)
 replace V := zn hX V
 replace RE := zn hX RE
 replace IM := zn hX IM
 replace HAL := zh (fun kx9 => GK.grow _ _ _ _ (HAL.out kx9) hX)
 clear hX
 obtain ⟨c_RE_0, f_RE_0, c_RE_1, f_RE_1, l_RE⟩ := zfl2 RE
 go_simp
 clear c_RE_0 f_RE_0 c_RE_1 f_RE_1 l_RE
 refine hK'.out _ _ (fun kk hk hS => ?_) ?_
 ·have HN : ∀ px9 ∈ ([(0, w.heap.size + 1, .cells #[.int .i64 n1, .int .i64 d1] 83), (1, w.heap.size + 1 + 1, .cells #[.int .i64 n2, .int .i64 d2] 83)] : List (Nat × Nat × Obj)), px9.1 = kk → px9.2.1 ≠ w.heap.size + 1 := fun px9 hp e => by
   simp only [List.mem_cons, List.not_mem_nil, or_false] at hp
   rcases hp with rfl | rfl
   ·subst e
    exact bfl (by kernel_rfl) hk
   ·show w.heap.size + 1 + 1 ≠ w.heap.size + 1
    omega
  exact GK.set (GK.set hS HN) HN
 clear hK' K'
 try simp only [Act.put, zA, zB, zC]
 clear HAL
 generalize hW : ((X7.setCell ⟨w.heap.size + 1, 0, none⟩ (.int .i64 n1)).setCell ⟨w.heap.size + 1, 1, none⟩ (.int .i64 d1)) = W8 at *
 replace V : Hid (W8.heap[w.heap.size]? = some (.cells #[.int .i64 r.i, .int .i64 r.j, .int .i64 r.re, .int .i64 r.im, .int .i64 r.dn, .int .i64 r.n] 42)) := zs hW (blk_set_other (blk_set_other (V.out) (by omega) 0 (.int .i64 n1)) (by omega) 1 (.int .i64 d1))
 replace RE : Hid (W8.heap[w.heap.size + 1]? = some (.cells #[.int .i64 n1, .int .i64 d1] 83)) := zs hW (blk_set (blk_set (RE.out) 0 (.int .i64 n1)) 1 (.int .i64 d1))
 replace IM : Hid (W8.heap[w.heap.size + 1 + 1]? = some (.cells #[.int .i64 n2, .int .i64 d2] 83)) := zs hW (blk_set_other (blk_set_other (IM.out) (by omega) 0 (.int .i64 n1)) (by omega) 1 (.int .i64 d1))
 replace NN := zt hW (p := Below _ _) (Bset1 (Bset1 (NN.out) (by omega) 0 (.int .i64 n1)) (by omega) 1 (.int .i64 d1))
 clear hW
 refine only_G 3 (by kernel_rfl) rfl (fun X9 hX K' hK' => ?_)
 replace NN := zh (Bgo NN.out hX)
 replace V := zn hX V
 replace RE := zn hX RE
 replace IM := zn hX IM
 skip
 clear hX
 obtain ⟨c_IM_0, f_IM_0, c_IM_1, f_IM_1, l_IM⟩ := zfl2 IM
 go_simp
 clear c_IM_0 f_IM_0 c_IM_1 f_IM_1 l_IM
 refine hK'.out _ _ (fun kk hk hS => ?_) ?_
 ·have HN : ∀ px9 ∈ ([(0, w.heap.size + 1, .cells #[.int .i64 n1, .int .i64 d1] 83), (1, w.heap.size + 1 + 1, .cells #[.int .i64 n2, .int .i64 d2] 83)] : List (Nat × Nat × Obj)), px9.1 = kk → px9.2.1 ≠ w.heap.size + 1 + 1 := fun px9 hp e => by
   simp only [List.mem_cons, List.not_mem_nil, or_false] at hp
   rcases hp with rfl | rfl
   ·subst e
    exact bfl (by kernel_rfl) hk
   ·subst e
    exact bfl (by kernel_rfl) hk
  exact GK.set (GK.set hS HN) HN
 clear hK' K'
 try simp only [Act.put, zA, zB, zC]
 generalize hW : ((X9.setCell ⟨w.heap.size + 1 + 1, 0, none⟩ (.int .i64 n2)).setCell ⟨w.heap.size + 1 + 1, 1, none⟩ (.int .i64 d2)) = W10 at *
 replace V : Hid (W10.heap[w.heap.size]? = some (.cells #[.int .i64 r.i, .int .i64 r.j, .int .i64 r.re, .int .i64 r.im, .int .i64 r.dn, .int .i64 r.n] 42)) := zs hW (blk_set_other (blk_set_other (V.out) (by omega) 0 (.int .i64 n2)) (by omega) 1 (.int .i64 d2))
 replace RE : Hid (W10.heap[w.heap.size + 1]? = some (.cells #[.int .i64 n1, .int .i64 d1] 83)) := zs hW (blk_set_other (blk_set_other (RE.out) (by omega) 0 (.int .i64 n2)) (by omega) 1 (.int .i64 d2))
 replace IM : Hid (W10.heap[w.heap.size + 1 + 1]? = some (.cells #[.int .i64 n2, .int .i64 d2] 83)) := zs hW (blk_set (blk_set (IM.out) 0 (.int .i64 n2)) 1 (.int .i64 d2))
 replace NN := zt hW (p := Below _ _) (Bset1 (Bset1 (NN.out) (by omega) 0 (.int .i64 n2)) (by omega) 1 (.int .i64 d2))
 clear hW
 refine tP 4 (.int .i64 0) (some 4) rfl ?_ ?_
 ·intro X hX
  clear hX
  go_simp
 try simp only [Act.put, zA, zB, zC]
 refine done_G (by kernel_rfl) (fun X11 hX => ?_) _
 replace NN := zh (Bgo NN.out hX)
 replace V := zn hX V
 replace RE := zn hX RE
 replace IM := zn hX IM
 clear hX
 obtain ⟨c_RE_0, f_RE_0, c_RE_1, f_RE_1, l_RE⟩ := zfl2 RE
 obtain ⟨c_IM_0, f_IM_0, c_IM_1, f_IM_1, l_IM⟩ := zfl2 IM
 go_wp2_with fail
 exact bodyPost_ret (v := .tuple #[Fv n1 d1, Fv n2 d2, .int .i64 0]) (by simp [results, Tryz.results51, go_sem, c_RE_0, c_RE_1, c_IM_0, c_IM_1]) rfl ⟨rfl, NN.out⟩
end
end Go.Proofs.YtbbnkclajpaghaaGreatDoor
