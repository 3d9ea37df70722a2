/- Several texts in one. -/
import Derived.Maps.AppendAt
import Derived.Deep.AppendLies
import Derived.OwnWalk
import Derived.Laws.OwnMore
import Derived.Deep.DeepCutAuto
import Derived.Deep.RegionLaw
import Derived.StillTail
import Derived.Lib.ParseIntBTie
import Derived.Test.YtbbnkclajpaghaaGreatDoorRows
import Derived.Test.YtbbnkclajpaghaaGreatDoorME00
import Derived.Test.YtbbnkclajpaghaaGreatDoorME01
set_option maxRecDepth 100000
set_option linter.unusedVariables false
set_option linter.unusedSimpArgs false
namespace Go.Proofs.YtbbnkclajpaghaaGreatDoor
open Go.ChangeShapes Go.WideShapes Go.ChangeAt Go.RowKit
attribute [local go_sem ↓] Go.wp_at_zero Go.wp_at_succ
def cmpI (x y : Int) : Int := if y < x then 1 else if x = y then 0 else -1
theorem cmpI_gt {x y : Int} (h : y < x) : cmpI x y = 1 := by unfold cmpI; rw [if_pos h]
theorem cmpI_eq {x y : Int} (h : x = y) : cmpI x y = 0 := by unfold cmpI; rw [if_neg (by omega), if_pos h]
theorem cmpI_lt {x y : Int} (h : x < y) : cmpI x y = -1 := by unfold cmpI; rw [if_neg (by omega), if_neg (by omega)]
theorem wider_calls (ah al bh bl : Nat) (w : World) (h1 : al < 18446744073709551616) (h2 : bl < 18446744073709551616) :
  Calls Tryz.prog 159 #[.int .u64 ah, .int .u64 al, .int .u64 bh, .int .u64 bl] w fun e w' => e = .returned (.int .i64 (cmpI ((18446744073709551616 * ah + al : Nat) : Int) ((18446744073709551616 * bh + bl : Nat) : Int))) ∧ w = w' := by
 have hc : bh < ah ∨ (ah = bh ∧ bl < al) ∨ (ah = bh ∧ al = bl) ∨ (ah = bh ∧ al < bl) ∨ ah < bh := by omega
 rcases hc with h | ⟨h, h'⟩ | ⟨h, h'⟩ | ⟨h, h'⟩ | h
 ·rw [cmpI_gt (by omega)]
  have q1 : decide ((bh : Int) < (ah : Int)) = true := decide_eq_true (by omega)
  have q2 : ((ah : Int) == (bh : Int)) = false := by rw [beq_eq_false_iff_ne]; omega
  go_enter Tryz.func159, Tryz.ntmps159
  go_wp2_with fail
  go_ret
  exact ⟨rfl, rfl⟩
 ·rw [cmpI_gt (by omega)]
  subst h
  have q0 : ¬ ah < ah := by omega
  go_enter Tryz.func159, Tryz.ntmps159
  go_wp2_with fail
  go_ret
  exact ⟨rfl, rfl⟩
 ·rw [cmpI_eq (by omega)]
  subst h h'
  have q0 : ¬ ah < ah := by omega
  have q1 : ¬ al < al := by omega
  go_enter Tryz.func159, Tryz.ntmps159
  go_wp2_with fail
  go_ret
  exact ⟨rfl, rfl⟩
 ·rw [cmpI_lt (by omega)]
  subst h
  have q0 : ¬ ah < ah := by omega
  have q1 : ¬ bl < al := by omega
  have q2 : ((al : Int) == (bl : Int)) = false := by rw [beq_eq_false_iff_ne]; omega
  go_enter Tryz.func159, Tryz.ntmps159
  go_wp2_with fail
  go_ret
  exact ⟨rfl, rfl⟩
 ·rw [cmpI_lt (by omega)]
  have q0 : ¬ bh < ah := by omega
  have q2 : ((ah : Int) == (bh : Int)) = false := by rw [beq_eq_false_iff_ne]; omega
  go_enter Tryz.func159, Tryz.ntmps159
  go_wp2_with fail
  go_ret
  exact ⟨rfl, rfl⟩
end Go.Proofs.YtbbnkclajpaghaaGreatDoor
namespace Farey
def ex (x y : Int) : List Int := if h : 0 < y then (x / y) :: ex y (x % y) else []
termination_by y.toNat
decreasing_by
  have h1 := Int.emod_lt_of_pos x h
  have h2 := Int.emod_nonneg x (show y ≠ 0 by omega)
  omega
end Farey
namespace Go.Proofs.YtbbnkclajpaghaaGreatDoor
open Go.ChangeShapes Go.WideShapes Go.ChangeAt Go.RowKit
attribute [local go_sem ↓] Go.wp_at_zero Go.wp_at_succ
structure P1 (w W : World) (N D : Int) : Prop where
 a : W.heap[w.heap.size]? = some (.cells #[.int .i64 N, .int .i64 D] 83)
 z : W.heap[w.heap.size + 1]? = some (.cells #[.int .i64 0, .int .i64 0] 83)
 n : Below w.heap.size w W
theorem P1.next {w W W' : World} {N D : Int} (h : P1 w W N D) (hb : Below W.heap.size W W') : P1 w W' N D := ⟨blk_next hb h.a, blk_next hb h.z, Bgo h.n hb⟩
theorem P1.drewN {w W : World} {N D : Int} (h : P1 w W N D) (n : Nat) : P1 w (W.drewN n) N D := h.next (below_drewN (Below.refl _ _) n)
theorem P1.init (w : World) (N D : Int) : P1 w ((w.alloc (.cells #[.int .i64 N, .int .i64 D] 83)).alloc (.cells #[.int .i64 0, .int .i64 0] 83)) N D := ⟨blk1 w _ _, blk2 w _ _, Bal (Bal (Below.refl _ _) _) _⟩
end Go.Proofs.YtbbnkclajpaghaaGreatDoor
namespace Go.Proofs.YtbbnkclajpaghaaGreatDoor
open Go.ChangeShapes Go.WideShapes Go.ChangeAt Go.RowKit
def Rd (w : World) (size : Nat) (A : Option Addr) (n : Nat) (xs : List Value) : Prop :=
 xs.length = n * size ∧ (0 < n → ∃ b off, A = some ⟨b, off, none⟩ ∧ b < w.heap.size ∧ ∀ j u, xs[j]? = some u → w.cell? ⟨b, off + j, none⟩ = some u)
theorem Rd.next {w w' : World} (hb : Below w.heap.size w w') {size n : Nat} {A : Option Addr} {xs : List Value} (h : Rd w size A n xs) : Rd w' size A n xs :=
 ⟨h.1, fun hn => by
  obtain ⟨b, off, e, hl, hc⟩ := h.2 hn
  exact ⟨b, off, e, Nat.lt_of_lt_of_le hl hb.size, fun j u hu => (hb.cell hl).trans (hc j u hu)⟩⟩
theorem Rd.of_own {w : World} {base : Nat} {e : TypeId} {size n : Nat} {v : Value} {xs : List Value} (h : w.ownsRow base e size v n xs) : ∃ A cap, v = .slice A n cap ∧ n ≤ cap ∧ cap ≤ 9223372036854775807 ∧ Rd w size A n xs := by
 have h1 := h.1
 rcases h.2 with ⟨h3, h2⟩ | ⟨g, cap, cur, hv, hb, hg, hc, hm, hs, ht⟩
 ·subst h2; exact ⟨none, 0, h3, by omega, by omega, h1, fun hn => absurd hn (by omega)⟩
 ·refine ⟨_, cap, hv, hc, by simpa [maxLen] using hm, h1, fun hn => ⟨g, 0, rfl, blk_lt hg, fun j u hu => ?_⟩⟩
  refine blk_cell hg (0 + j) u ?_
  rw [← ht, List.getElem?_take] at hu
  split at hu
  ·simpa using hu
  ·simp at hu
section
variable {P : Program} (w : World)
theorem run_append_nilsrc (base : Nat) (t ty e : TypeId) (i : TypeInfo) (size : Nat) (ht : P.underlying t = some (.slice e)) (hi : P.info? e = some i)
  (v : Value) (n : Nat) (xs : List Value) (hown : w.ownsRow base e size v n xs) (c : Nat) : (Builtin.append_ #[t, t] ty #[v, .slice none 0 c]).run P w = .ok v w := by
 rcases hown.2 with ⟨rfl, rfl⟩ | ⟨g, cap, cur, rfl, _, _, hnc, _⟩
 ·simp [Builtin.append_, run_underlying ht, sizeOf, typeInfo, hi, Builtin.lenOf, Builtin.firstCells]
 ·simp [Builtin.append_, run_underlying ht, sizeOf, typeInfo, hi, Builtin.lenOf, Builtin.firstCells, hnc, storeCells]
theorem run_append_rd (base : Nat) (t ty e : TypeId) (i : TypeInfo) (z : Value) (size bytes : Nat) (ht : P.underlying t = some (.slice e)) (hi : P.info? e = some i) (hz : i.zero = some z)
  (hsize : i.size = size) (hby : i.bytes = bytes) (hzs : z.cells.size = size) (hsz : 0 < size)
  (v : Value) (n : Nat) (xs : List Value) (hown : w.ownsRow base e size v n xs)
  (A : Option Addr) (m c : Nat) (news : List Value) (hr : Rd w size A m news) (h1 : ∀ u ∈ news, u.oneCell' = true)
  (h63 : n + m ≤ maxLen) (hbytes : (n + m) * bytes ≤ 140737488355328) (hbase : base ≤ w.heap.size) :
  ∃ v' w', (Builtin.append_ #[t, t] ty #[v, .slice A m c]).run P w = .ok v' w' ∧ w'.ownsRow base e size v' (n + m) (xs ++ news) ∧ w.grownBy w' v.ownBlock ∧
   (v'.ownBlock = v.ownBlock ∨ v'.ownBlock = some w.heap.size) := by
 rcases Nat.eq_zero_or_pos m with h0 | h0
 ·subst h0
  have hn : news = [] := List.eq_nil_of_length_eq_zero (by simpa using hr.1)
  subst hn
  rcases A with _ | ad
  ·exact ⟨v, w, run_append_nilsrc w base t ty e i size ht hi v n xs hown c, by simpa using hown, World.grownBy.refl w _, .inl rfl⟩
  ·obtain ⟨v', w', hrun, h2, h3, _, h5⟩ := run_append_own_at (P := P) w base t ty e i z size bytes ht hi hz hsize hby hzs hsz v n xs hown ad 0 c [] (by simp) (by simp) (by simp) h63 hbytes hbase
   exact ⟨v', w', hrun, h2, h3, h5⟩
 ·obtain ⟨b, off, rfl, hl, hc⟩ := hr.2 h0
  have hcells : ∀ j u, news[j]? = some u → w.cell? ((⟨b, off, none⟩ : Addr).add j) = some u := by
   intro j u hu
   have e : (⟨b, off, none⟩ : Addr).add j = ⟨b, off + j, none⟩ := by
    unfold Addr.add; split
    ·rename_i h; subst h; rfl
    ·rfl
   rw [e]; exact hc j u hu
  obtain ⟨v', w', hrun, h2, h3, _, h5⟩ := run_append_own_at (P := P) w base t ty e i z size bytes ht hi hz hsize hby hzs hsz v n xs hown ⟨b, off, none⟩ m c news hr.1 hcells h1 h63 hbytes hbase
  exact ⟨v', w', hrun, h2, h3, h5⟩
theorem wp_append_rd {o : Oper} {a : Act} {K : Act → World → Prop} {Q : Exit → Act → World → Prop} (s x : Operand) (t : TypeId)
  (ho : o.op = .call { callee := .builtin .append, args := #[s, x], argTypes := #[t, t] })
  (base : Nat) (e : TypeId) (i : TypeInfo) (z : Value) (size bytes : Nat) (ht : P.underlying t = some (.slice e)) (hi : P.info? e = some i) (hz : i.zero = some z)
  (hsize : i.size = size) (hby : i.bytes = bytes) (hzs : z.cells.size = size) (hsz : 0 < size)
  (v : Value) (n : Nat) (xs : List Value) (hs : a.eval s = v) (hown : w.ownsRow base e size v n xs)
  (A : Option Addr) (m c : Nat) (news : List Value) (hx : a.eval x = .slice A m c) (hr : Rd w size A m news) (h1 : ∀ u ∈ news, u.oneCell' = true)
  (h63 : n + m ≤ maxLen) (hbytes : (n + m) * bytes ≤ 140737488355328) (hbase : base ≤ w.heap.size)
  (h : ∀ v' w', w'.ownsRow base e size v' (n + m) (xs ++ news) → w.grownBy w' v.ownBlock → (v'.ownBlock = v.ownBlock ∨ v'.ownBlock = some w.heap.size) → K (a.put o.dst v') w') : o.wp P a w K Q := by
 obtain ⟨v', w', hrun, h2, h3, h4⟩ := run_append_rd (P := P) w base t o.type e i z size bytes ht hi hz hsize hby hzs hsz v n xs hown A m c news hr h1 h63 hbytes hbase
 unfold Oper.wp execOp
 simp only [ho, resolve, invoke, builtin, Sem.run_bind, Sem.run_pure, Result.andThen_ok, List.map_toArray, List.map_cons, List.map_nil, hs, hx, hrun]
 exact h v' w' h2 h3 h4
theorem wpList_append_rd {ops : Array Oper} {rest : List Oper} {o : Oper} {a : Act} {Q : Exit → Act → World → Prop} (hgd : o.guard = none) (s x : Operand) (t : TypeId)
  (ho : o.op = .call { callee := .builtin .append, args := #[s, x], argTypes := #[t, t] })
  (base : Nat) (e : TypeId) (i : TypeInfo) (z : Value) (size bytes : Nat) (ht : P.underlying t = some (.slice e)) (hi : P.info? e = some i) (hz : i.zero = some z)
  (hsize : i.size = size) (hby : i.bytes = bytes) (hzs : z.cells.size = size) (hsz : 0 < size)
  (v : Value) (n : Nat) (xs : List Value) (hs : a.eval s = v) (hown : w.ownsRow base e size v n xs)
  (A : Option Addr) (m c : Nat) (news : List Value) (hx : a.eval x = .slice A m c) (hr : Rd w size A m news) (h1 : ∀ u ∈ news, u.oneCell' = true)
  (h63 : n + m ≤ maxLen) (hbytes : (n + m) * bytes ≤ 140737488355328) (hbase : base ≤ w.heap.size)
  (h : ∀ v' w', w'.ownsRow base e size v' (n + m) (xs ++ news) → w.grownBy w' v.ownBlock → (v'.ownBlock = v.ownBlock ∨ v'.ownBlock = some w.heap.size) → wpList P ops Q rest (a.put o.dst v') w') : wpList P ops Q (o :: rest) a w :=
 wpList_plain hgd fun _ hK => wp_append_rd w s x t ho base e i z size bytes ht hi hz hsize hby hzs hsz v n xs hs hown A m c news hx hr h1 h63 hbytes hbase fun v' w' h2 h3 h4 => hK _ _ (h v' w' h2 h3 h4)
end
theorem own_next {W w1 : World} (hb : Below W.heap.size W w1) {base : Nat} {e : TypeId} {size : Nat} {v : Value} {n : Nat} {xs : List Value} (h : W.ownsRow base e size v n xs) : w1.ownsRow base e size v n xs := by
 obtain ⟨h1, h2 | ⟨g, cap, cur, e1, e2, e3, e4⟩⟩ := h
 ·exact ⟨h1, .inl h2⟩
 ·exact ⟨h1, .inr ⟨g, cap, cur, e1, e2, blk_next hb e3, e4⟩⟩
def lv (l : List Int) : List Value := l.map fun (x : Int) => Value.int .i64 x
theorem lv_get {l : List Int} {k : Nat} {x : Int} (h : l[k]? = some x) : (lv l)[k]? = some (.int .i64 x) := by simp [lv, h]
end Go.Proofs.YtbbnkclajpaghaaGreatDoor
namespace Go.Proofs.YtbbnkclajpaghaaGreatDoor
open Go.ChangeShapes Go.WideShapes Go.ChangeAt Go.RowKit
attribute [local go_sem ↓] Go.wp_at_zero Go.wp_at_succ
structure P2 (w W : World) (an ad bn bd : Int) : Prop where
 a : W.heap[w.heap.size]? = some (.cells #[.int .i64 an, .int .i64 ad] 83)
 b : W.heap[w.heap.size + 1]? = some (.cells #[.int .i64 bn, .int .i64 bd] 83)
 n : Below w.heap.size w W
theorem P2.next {w W W' : World} {an ad bn bd : Int} (h : P2 w W an ad bn bd) (hb : Below W.heap.size W W') : P2 w W' an ad bn bd := ⟨blk_next hb h.a, blk_next hb h.b, Bgo h.n hb⟩
theorem P2.init (w : World) (an ad bn bd : Int) : P2 w ((w.alloc (.cells #[.int .i64 an, .int .i64 ad] 83)).alloc (.cells #[.int .i64 bn, .int .i64 bd] 83)) an ad bn bd := ⟨blk1 w _ _, blk2 w _ _, Bal (Bal (Below.refl _ _) _) _⟩
end Go.Proofs.YtbbnkclajpaghaaGreatDoor
namespace Go.Proofs.YtbbnkclajpaghaaGreatDoor
open Go
section
variable {P : Program} {ops : Array Oper} {Q : Exit → Act → World → Prop} {md : Region.Mode} {S : Nat → World → Prop}
def wpAnyI (P : Program) (md : Region.Mode) (ops : Array Oper) (Q : Exit → Act → World → Prop) (S : Nat → World → Prop) : Nat → Array Bool → Act → World → Prop
 | 0, done, a, w => Region.ready md ops done = [] ∧ Q .normal a w
 | f + 1, done, a, w => (Region.ready md ops done = [] → Q .normal a w) ∧
  ∀ i ∈ Region.ready md ops done, wpOp P ops Q i (fun a' w' => (∀ k, Region.waitsFor md ops i k = false → S k w → S k w') ∧ wpAnyI P md ops Q S f (done.setIfInBounds i true) a' w') a w
theorem wpAny_of_I : ∀ (f : Nat) (done : Array Bool) (a : Act) (w : World), wpAnyI P md ops Q S f done a w → wpAny P md ops Q f done a w
 | 0, _, _, _, h => h
 | f + 1, _, _, _, h => ⟨h.1, fun i hi => wpOp_mono (fun a' w' h' => wpAny_of_I f _ a' w' h'.2) (h.2 i hi)⟩
theorem not_waits {i j : Nat} {done : Array Bool} (hj : j ∈ Region.ready md ops done) (hi : i ∈ Region.ready md ops done) : Region.waitsFor md ops j i = false := by
 cases h : Region.waitsFor md ops j i with
 | false => rfl
 | true =>
  obtain ⟨oj, hoj, e, he, hb, hon⟩ := Region.waitsFor_spec h
  obtain ⟨_, o', ho', hall⟩ := mem_ready.1 hj
  have : o' = oj := Option.some.inj (ho'.symm.trans hoj)
  subst this
  have h1 := hall e he hb
  have h0 := getD_both (mem_ready.1 hi).1
  rw [hon, h0] at h1
  cases h1
theorem edge_ne {i j : Nat} {oj : Oper} {done : Array Bool} (hoj : ops[j]? = some oj) (hj : j ∈ Region.ready md ops done) (hi : i ∈ Region.ready md ops done) : ∀ e ∈ oj.after, Region.binds md e = true → e.on ≠ i := fun e he hb heq => by
 obtain ⟨_, o', ho', hall⟩ := mem_ready.1 hj
 have : o' = oj := Option.some.inj (ho'.symm.trans hoj)
 subst this
 have h1 := hall e he hb
 rw [heq, getD_both (mem_ready.1 hi).1] at h1
 cases h1
theorem wpAnyI_first {i : Nat} {oi : Oper} {v : Value} (hi : ops[i]? = some oi) (hsel : ∀ (j : Nat) (o : Oper) cs b, ops[j]? = some o → o.op ≠ .select cs b)
  (hQ : ∀ c a w, Q (.panic c) (a.put oi.dst v) w → Q (.panic c) a w) :
  ∀ (f : Nat) (done : Array Bool) (a : Act) (w : World),
   (∀ j oj, ops[j]? = some oj → j ≠ i → done.getD j true = false → (∀ e ∈ oj.after, Region.binds md e = true → e.on ≠ i) → oi.apart ops oj = true) →
   i ∈ Region.ready md ops done → YieldsIf P ops (S i) oi v a → S i w →
   wpAnyI P md ops Q S f (done.setIfInBounds i true) (a.put oi.dst v) w → wpAnyI P md ops Q S (f + 1) done a w := by
 intro f
 induction f with
 | zero =>
  intro done a w _ hr hy hS H
  refine ⟨fun h => (by rw [h] at hr; cases hr), fun j hj => ?_⟩
  by_cases e : j = i
  ·subst e; exact hy.wpOp hi hS ⟨fun _ _ h => h, H⟩
  ·have := ready_mono hj e
   rw [H.1] at this
   cases this
 | succ f ih =>
  intro done a w hfree hr hy hS H
  refine ⟨fun h => (by rw [h] at hr; cases hr), fun j hj => ?_⟩
  by_cases e : j = i
  ·subst e; exact hy.wpOp hi hS ⟨fun _ _ h => h, H⟩
  ·have h1 := H.2 j (ready_mono hj e)
   obtain ⟨hjun, oj, hoj, _⟩ := mem_ready.1 hj
   have nw := not_waits hj hr
   have h2 := wpOp_putIf hoj (hfree j oj hoj e hjun (edge_ne hoj hj hr)) (fun cs b => hsel i oi cs b hi) (fun cs b => hsel j oj cs b hoj) hQ hy h1
   have hfree' : ∀ k ok, ops[k]? = some ok → k ≠ i → (done.setIfInBounds j true).getD k true = false → (∀ e ∈ ok.after, Region.binds md e = true → e.on ≠ i) → oi.apart ops ok = true := fun k ok hk hki hun hno => by
    refine hfree k ok hk hki ?_ hno
    by_cases hjk : j = k
    ·subst hjk; exact hjun
    ·rw [getD_set_ne true hjk] at hun; exact hun
   refine wpOp_mono (fun a' w' h3 => ⟨h3.2.1, ?_⟩) h2
   have r2 := ready_mono hr (Ne.symm e)
   refine ih (done.setIfInBounds j true) a' w' hfree' r2 h3.1 (h3.2.1 i nw hS) ?_
   rw [Array.setIfInBounds_comm _ _ e]
   exact h3.2.2
theorem take_I {oi : Oper} {f : Nat} {done : Array Bool} {a : Act} {w : World} (i : Nat) (v : Value) (d : Option Nat) (hi : ops[i]? = some oi) (hs : Region.noSelect ops = true) (hf : Region.free md ops done i = true)
  (hr : (Region.ready md ops done).contains i = true) (hd : oi.dst = d) (hQ : ∀ c a w, Q (.panic c) (a.put oi.dst v) w → Q (.panic c) a w) (hy : YieldsIf P ops (S i) oi v a) (hS : S i w)
  (h : wpAnyI P md ops Q S f (done.setIfInBounds i true) (a.put d v) w) : wpAnyI P md ops Q S (f + 1) done a w :=
 wpAnyI_first hi (Region.noSelect_spec hs) hQ f done a w (Region.free_spec hi hf) (by simpa using hr) hy hS (by rw [hd]; exact h)
theorem only_I {o : Oper} {f : Nat} {done : Array Bool} {a : Act} {w : World} (i : Nat) (hr : Region.ready md ops done = [i]) (ho : ops[i]? = some o)
  (h : ∀ K' : Act → World → Prop, Shut (∀ a' w', (∀ k, Region.waitsFor md ops i k = false → S k w → S k w') → wpAnyI P md ops Q S f (done.setIfInBounds i true) a' w' → K' a' w') → if Region.wanted o (yielded ops a.tmps) = true then Oper.wp P o a w K' Q else K' (a.put o.dst undef) w) :
  wpAnyI P md ops Q S (f + 1) done a w :=
 ⟨fun h0 => (by rw [hr] at h0; cases h0), fun j hj => by
  rw [hr] at hj
  have e : j = i := by simpa using hj
  subst e
  exact wpOp_step ho (fun K' hK => h K' (fun a' w' h1 h2 => hK a' w' ⟨h1, h2⟩))⟩
theorem done_I {done : Array Bool} {a : Act} {w : World} (hr : Region.ready md ops done = []) (h : Q .normal a w) : ∀ f, wpAnyI P md ops Q S f done a w
 | 0 => ⟨hr, h⟩
 | _ + 1 => ⟨fun _ => h, by rw [hr]; simp⟩
theorem region_I {id : Nat} {a : Act} {w : World} (hm : P.follows .mixedOrders = true) (h : wpAnyI P .any ops Q S ops.size (Array.replicate ops.size false) a w.drew) : (Code.region id ops true).wp P Q a w :=
 wp_region_any hm (wpAny_of_I _ _ _ _ h)
end
theorem zA {α : Type} (l : List α) (i : Nat) (a : α) : l.toArray.setIfInBounds i a = (l.set i a).toArray := List.setIfInBounds_toArray ..
theorem zB {α : Type} {a b : α} {l : List α} : (a :: l).set 0 b = b :: l := rfl
theorem zC {α : Type} {a b : α} {l : List α} {n : Nat} : (a :: l).set (n + 1) b = a :: l.set n b := rfl
end Go.Proofs.YtbbnkclajpaghaaGreatDoor
namespace Go.Proofs.YtbbnkclajpaghaaGreatDoor
open Go.ChangeShapes Go.WideShapes Go.ChangeAt Go.RowKit
attribute [local go_sem ↓] Go.wp_at_zero Go.wp_at_succ
def tailF (neg : Bool) (X g d1 d2 : Nat) : Int × Int × Int := if X / Nat.gcd (X % g) g = 0 then (0, 1, 0) else lowF neg (X / Nat.gcd (X % g) g) ((d1 / g) * (d2 / Nat.gcd (X % g) g))
def addP (an bn : Int) (P Q g y v : Nat) : Int × Int × Int :=
 if decide (an < 0) = decide (bn < 0) then tailF (decide (an < 0)) (P + Q) g y v else if P < Q then tailF (decide (bn < 0)) (Q - P) g v y else tailF (decide (an < 0)) (P - Q) g y v
def addF (an ad bn bd : Int) : Int × Int × Int :=
 addP an bn (an.natAbs * (bd.natAbs / Nat.gcd ad.natAbs bd.natAbs)) (bn.natAbs * (ad.natAbs / Nat.gcd ad.natAbs bd.natAbs)) (Nat.gcd ad.natAbs bd.natAbs) ad.natAbs bd.natAbs
def addR (an ad bn bd : Int) : Int × Int × Int := if errB an ad bn bd = 0 then addF an ad bn bd else (0, 0, errB an ad bn bd)
theorem eqArr4 (a b c d : Int) (w : World) : (Op.equalIn 9999 152 (.agg #[.int .u64 a, .int .u64 b, .int .u64 c, .int .u64 d]) (.agg #[.int .u64 0, .int .u64 0, .int .u64 0, .int .u64 0])).run Tryz.prog w = .ok (a == 0 && (b == 0 && (c == 0 && d == 0))) w := by
 have u3 := Tryz.underlying147
 have a3 := Tryz.isAgg147
 have z3 := Tryz.sizeOf147
 rw [show (9999 : Nat) = 9998 + 1 from rfl, Op.equalIn]
 simp only [Sem.run_bind, run_underlying Tryz.underlying152, Result.andThen_ok]
 simp only [Std.Legacy.Range.forIn_eq_forIn_range', Std.Legacy.Range.size, Nat.sub_zero, Nat.add_sub_cancel, Nat.div_one, List.range'_succ, List.range'_zero, List.forIn_cons, List.forIn_nil]
 go_simp
 by_cases h1 : a = 0 <;> by_cases h2 : b = 0 <;> by_cases h3 : c = 0 <;> by_cases h4 : d = 0 <;> simp [h1, h2, h3, h4]
attribute [local go_sem] eqArr4
theorem bfl {p : Prop} {b : Bool} (h1 : b = true) (h2 : b = false) : p := by rw [h1] at h2; cases h2
theorem PK.swap {w W : World} {an ad bn bd : Int} (h : PK w W an ad bn bd) (cn cd dn dd : Int) : PK w ((((W.setCell ⟨w.heap.size, 0, none⟩ (.int .i64 cn)).setCell ⟨w.heap.size, 1, none⟩ (.int .i64 cd)).setCell ⟨w.heap.size + 1, 0, none⟩ (.int .i64 dn)).setCell ⟨w.heap.size + 1, 1, none⟩ (.int .i64 dd)) cn cd dn dd :=
 ⟨blk_set_other (blk_set_other (blk_set (blk_set h.a 0 _) 1 _) (by omega) _ _) (by omega) _ _, blk_set (blk_set (blk_set_other (blk_set_other h.b (by omega) _ _) (by omega) _ _) 0 _) 1 _, blk_set_other (blk_set_other (blk_set_other (blk_set_other h.z (by omega) _ _) (by omega) _ _) (by omega) _ _) (by omega) _ _, Bset1 (Bset1 (Bset1 (Bset1 h.n (by omega) _ _) (by omega) _ _) (by omega) _ _) (by omega) _ _⟩
end Go.Proofs.YtbbnkclajpaghaaGreatDoor
namespace Go.Proofs.YtbbnkclajpaghaaGreatDoor
def redF (N : Int) (D : Nat) : Int × Int × Int := lowF (decide (N < 0)) (N.natAbs / Nat.gcd N.natAbs D) (D / Nat.gcd N.natAbs D)
theorem cop_of {A B m : Nat} (h : Nat.gcd B m = 1) (f : ∀ d, d ∣ A → d ∣ m → d ∣ B) : Nat.gcd A m = 1 :=
 Nat.eq_one_of_dvd_one (h ▸ Nat.dvd_gcd (f _ (Nat.gcd_dvd_left _ _) (Nat.gcd_dvd_right _ _)) (Nat.gcd_dvd_right _ _))
theorem lowF_zero (b : Bool) (d : Nat) : lowF b 0 d = lowF false 0 d := by cases b <;> simp [lowF]
theorem tail_red {neg : Bool} {X g y v d1 d2 : Nat} (hg : 0 < g) (e1 : d1 = g * y) (e2 : d2 = g * v) (hy : Nat.gcd X y = 1) (hv : Nat.gcd X v = 1) :
  tailF neg X g d1 d2 = if X = 0 then (0, 1, 0) else lowF neg ((g * X) / Nat.gcd (g * X) (d1 * d2)) ((d1 * d2) / Nat.gcd (g * X) (d1 * d2)) := by
 subst e1 e2
 have h1 : Nat.gcd (X % g) g = Nat.gcd X g := by rw [← Nat.gcd_rec, Nat.gcd_comm]
 have e : g * y * (g * v) = g * (y * (v * g)) := by grind
 have h2 : Nat.gcd (g * X) (g * y * (g * v)) = g * Nat.gcd X g := by
  rw [e, Nat.gcd_mul_left, Nat.gcd_mul_right_right_of_gcd_eq_one hy, Nat.gcd_mul_right_right_of_gcd_eq_one hv]
 have hp : 0 < Nat.gcd X g := Nat.gcd_pos_of_pos_right _ hg
 have hd : Nat.gcd X g ∣ X := Nat.gcd_dvd_left _ _
 have hdg : Nat.gcd X g ∣ g := Nat.gcd_dvd_right _ _
 unfold tailF
 rw [h1, h2]
 have z : X / Nat.gcd X g = 0 ↔ X = 0 := by
  constructor
  ·intro h
   have := Nat.div_mul_cancel hd
   rw [h] at this; omega
  ·intro h; rw [h]; exact Nat.zero_div _
 by_cases c : X = 0
 ·rw [if_pos (z.2 c), if_pos c]
 ·rw [if_neg (fun h => c (z.1 h)), if_neg c, Nat.mul_div_mul_left _ _ hg, e, Nat.mul_div_mul_left _ _ hg, Nat.mul_div_cancel_left _ hg, Nat.mul_comm v g, Nat.mul_div_assoc _ (Nat.dvd_trans hdg (Nat.dvd_mul_right _ _))]
theorem redF_of_zero (D : Nat) (hD : 0 < D) : redF 0 D = (0, 1, 0) := by
 unfold redF
 simp [Nat.div_self hD, lowF]
theorem tail_eq {neg : Bool} {X g y v d1 d2 : Nat} {N : Int} {D : Nat} (hg : 0 < g) (e1 : d1 = g * y) (e2 : d2 = g * v) (hy : Nat.gcd X y = 1) (hv : Nat.gcd X v = 1) (hN : N.natAbs = g * X) (hs : X ≠ 0 → neg = decide (N < 0)) (hD : D = d1 * d2) (h1 : 0 < d1) (h2 : 0 < d2) :
  tailF neg X g d1 d2 = redF N D := by
 rw [tail_red hg e1 e2 hy hv]
 by_cases c : X = 0
 ·rw [if_pos c]
  have : N = 0 := by rw [c] at hN; omega
  rw [this, redF_of_zero D (by rw [hD]; exact Nat.mul_pos h1 h2)]
 ·rw [if_neg c]
  unfold redF
  rw [hN, hD, hs c]
theorem addF_red {an ad bn bd : Int} (va : VF an ad) (vb : VF bn bd) : addF an ad bn bd = redF (an * bd + bn * ad) (ad.natAbs * bd.natAbs) := by
 have d1 := va.d1
 have d3 := vb.d1
 have ga := va.g
 have gb := vb.g
 obtain ⟨Y, rfl⟩ := Int.eq_ofNat_of_zero_le (show 0 ≤ ad by omega)
 obtain ⟨V, rfl⟩ := Int.eq_ofNat_of_zero_le (show 0 ≤ bd by omega)
 unfold addF
 simp only [Int.natAbs_natCast] at *
 have hg : 0 < Nat.gcd Y V := Nat.gcd_pos_of_pos_right _ (by omega)
 have eY := Nat.mul_div_cancel' (Nat.gcd_dvd_left Y V)
 have eV := Nat.mul_div_cancel' (Nat.gcd_dvd_right Y V)
 have cop : Nat.gcd (Y / Nat.gcd Y V) (V / Nat.gcd Y V) = 1 := Nat.coprime_div_gcd_div_gcd hg
 generalize Nat.gcd Y V = g at *
 generalize Y / g = y at *
 generalize V / g = v at *
 have cx : Nat.gcd an.natAbs y = 1 := by
  refine cop_of (B := an.natAbs) (m := y) ?_ (fun d h _ => h)
  exact Nat.Coprime.coprime_mul_left_right (k := g) (by rw [eY]; exact ga)
 have cu : Nat.gcd bn.natAbs v = 1 := Nat.Coprime.coprime_mul_left_right (k := g) (by rw [eV]; exact gb)
 have cP : Nat.gcd (an.natAbs * v) y = 1 := Nat.Coprime.mul_left cx (Nat.Coprime.symm cop)
 have cQ : Nat.gcd (bn.natAbs * y) v = 1 := Nat.Coprime.mul_left cu cop
 have pP : v ∣ an.natAbs * v := Nat.dvd_mul_left _ _
 have pQ : y ∣ bn.natAbs * y := Nat.dvd_mul_left _ _
 have nP : ((an.natAbs * v : Nat) : Int) * g = if an < 0 then -(an * V) else an * V := by
  rw [← eV]; push_cast
  by_cases c : an < 0
  ·rw [if_pos c, show ((an.natAbs : Nat) : Int) = -an by omega]; grind
  ·rw [if_neg c, show ((an.natAbs : Nat) : Int) = an by omega]; grind
 have nQ : ((bn.natAbs * y : Nat) : Int) * g = if bn < 0 then -(bn * Y) else bn * Y := by
  rw [← eY]; push_cast
  by_cases c : bn < 0
  ·rw [if_pos c, show ((bn.natAbs : Nat) : Int) = -bn by omega]; grind
  ·rw [if_neg c, show ((bn.natAbs : Nat) : Int) = bn by omega]; grind
 have zP : an < 0 → 0 < an.natAbs * v := fun h => Nat.mul_pos (by omega) (Nat.pos_of_ne_zero (fun e => by rw [e] at eV; omega))
 have zQ : bn < 0 → 0 < bn.natAbs * y := fun h => Nat.mul_pos (by omega) (Nat.pos_of_ne_zero (fun e => by rw [e] at eY; omega))
 generalize an.natAbs * v = P at *
 generalize bn.natAbs * y = Q at *
 have gi : 0 < (g : Int) := by omega
 unfold addP
 have gP : (P : Int) * g = ((g * P : Nat) : Int) := by push_cast; grind
 have gQ : (Q : Int) * g = ((g * Q : Nat) : Int) := by push_cast; grind
 rw [gP] at nP
 rw [gQ] at nQ
 have mP : 0 < P → 0 < g * P := fun h => Nat.mul_pos hg h
 have mQ : 0 < Q → 0 < g * Q := fun h => Nat.mul_pos hg h
 by_cases cs : decide (an < 0) = decide (bn < 0)
 ·rw [if_pos cs]
  refine tail_eq hg eY.symm eV.symm ?_ ?_ ?_ ?_ rfl (by omega) (by omega)
  ·exact cop_of cP (fun d h k => (Nat.dvd_add_left (Nat.dvd_trans k pQ)).1 h)
  ·exact cop_of cQ (fun d h k => (Nat.dvd_add_right (Nat.dvd_trans k pP)).1 h)
  ·rw [Nat.mul_add]
   generalize an * (V : Int) = A at *
   generalize bn * (Y : Int) = B at *
   by_cases c : an < 0
   ·have c' : bn < 0 := by simpa [c] using cs
    rw [if_pos c] at nP; rw [if_pos c'] at nQ; omega
   ·have c' : ¬ bn < 0 := by simpa [c] using cs
    rw [if_neg c] at nP; rw [if_neg c'] at nQ; omega
  ·intro _
   generalize an * (V : Int) = A at *
   generalize bn * (Y : Int) = B at *
   by_cases c : an < 0
   ·have c' : bn < 0 := by simpa [c] using cs
    rw [if_pos c] at nP; rw [if_pos c'] at nQ
    have := mP (zP c)
    simp [c]; omega
   ·have c' : ¬ bn < 0 := by simpa [c] using cs
    rw [if_neg c] at nP; rw [if_neg c'] at nQ
    simp [c]; omega
 ·rw [if_neg cs]
  by_cases cp : P < Q
  ·rw [if_pos cp]
   have cl : g * P < g * Q := Nat.mul_lt_mul_of_pos_left cp hg
   have eX : P + (Q - P) = Q := by omega
   have eG : g * (Q - P) = g * Q - g * P := Nat.mul_sub g Q P
   refine tail_eq hg eV.symm eY.symm ?_ ?_ ?_ ?_ (Nat.mul_comm _ _) (by omega) (by omega)
   ·refine cop_of cQ (fun d h k => ?_)
    rw [← eX]; exact Nat.dvd_add (Nat.dvd_trans k pP) h
   ·refine cop_of cP (fun d h k => ?_)
    have := Nat.dvd_trans k pQ
    rw [← eX] at this
    exact (Nat.dvd_add_left h).1 this
   ·rw [eG]
    generalize an * (V : Int) = A at *
    generalize bn * (Y : Int) = B at *
    by_cases c : an < 0
    ·have c' : ¬ bn < 0 := fun h => cs (by simp [c, h])
     rw [if_pos c] at nP; rw [if_neg c'] at nQ; omega
    ·have c' : bn < 0 := by
      by_cases h : bn < 0
      ·exact h
      ·exact absurd (by simp [c, h]) cs
     rw [if_neg c] at nP; rw [if_pos c'] at nQ; omega
   ·intro _
    generalize an * (V : Int) = A at *
    generalize bn * (Y : Int) = B at *
    by_cases c : an < 0
    ·have c' : ¬ bn < 0 := fun h => cs (by simp [c, h])
     rw [if_pos c] at nP; rw [if_neg c'] at nQ; simp [c']; omega
    ·have c' : bn < 0 := by
      by_cases h : bn < 0
      ·exact h
      ·exact absurd (by simp [c, h]) cs
     rw [if_neg c] at nP; rw [if_pos c'] at nQ; simp [c']; omega
  ·rw [if_neg cp]
   have cl : g * Q ≤ g * P := Nat.mul_le_mul_left _ (by omega)
   have eX : Q + (P - Q) = P := by omega
   have eG : g * (P - Q) = g * P - g * Q := Nat.mul_sub g P Q
   refine tail_eq hg eY.symm eV.symm ?_ ?_ ?_ ?_ rfl (by omega) (by omega)
   ·refine cop_of cP (fun d h k => ?_)
    rw [← eX]; exact Nat.dvd_add (Nat.dvd_trans k pQ) h
   ·refine cop_of cQ (fun d h k => ?_)
    have := Nat.dvd_trans k pP
    rw [← eX] at this
    exact (Nat.dvd_add_left h).1 this
   ·rw [eG]
    generalize an * (V : Int) = A at *
    generalize bn * (Y : Int) = B at *
    by_cases c : an < 0
    ·have c' : ¬ bn < 0 := fun h => cs (by simp [c, h])
     rw [if_pos c] at nP; rw [if_neg c'] at nQ; omega
    ·have c' : bn < 0 := by
      by_cases h : bn < 0
      ·exact h
      ·exact absurd (by simp [c, h]) cs
     rw [if_neg c] at nP; rw [if_pos c'] at nQ; omega
   ·intro hX
    have cl' : g * Q < g * P := Nat.mul_lt_mul_of_pos_left (by omega) hg
    generalize an * (V : Int) = A at *
    generalize bn * (Y : Int) = B at *
    by_cases c : an < 0
    ·have c' : ¬ bn < 0 := fun h => cs (by simp [c, h])
     rw [if_pos c] at nP; rw [if_neg c'] at nQ; simp [c]; omega
    ·have c' : bn < 0 := by
      by_cases h : bn < 0
      ·exact h
      ·exact absurd (by simp [c, h]) cs
     rw [if_neg c] at nP; rw [if_pos c'] at nQ; simp [c]; omega
theorem mulF_red {an ad bn bd : Int} (va : VF an ad) (vb : VF bn bd) : mulF an ad bn bd = redF (an * bn) (ad.natAbs * bd.natAbs) := by
 have d1 := va.d1
 have d3 := vb.d1
 have ga := va.g
 have gb := vb.g
 have hg : 0 < Nat.gcd an.natAbs bd.natAbs := Nat.gcd_pos_of_pos_right _ (by omega)
 have hh : 0 < Nat.gcd bn.natAbs ad.natAbs := Nat.gcd_pos_of_pos_right _ (by omega)
 have ex := Nat.mul_div_cancel' (Nat.gcd_dvd_left an.natAbs bd.natAbs)
 have ev := Nat.mul_div_cancel' (Nat.gcd_dvd_right an.natAbs bd.natAbs)
 have eu := Nat.mul_div_cancel' (Nat.gcd_dvd_left bn.natAbs ad.natAbs)
 have ey := Nat.mul_div_cancel' (Nat.gcd_dvd_right bn.natAbs ad.natAbs)
 have c1 : Nat.gcd (an.natAbs / Nat.gcd an.natAbs bd.natAbs) (bd.natAbs / Nat.gcd an.natAbs bd.natAbs) = 1 := Nat.coprime_div_gcd_div_gcd hg
 have c2 : Nat.gcd (bn.natAbs / Nat.gcd bn.natAbs ad.natAbs) (ad.natAbs / Nat.gcd bn.natAbs ad.natAbs) = 1 := Nat.coprime_div_gcd_div_gcd hh
 have nz : (an * bn).natAbs = an.natAbs * bn.natAbs := Int.natAbs_mul _ _
 have sg : an.natAbs * bn.natAbs ≠ 0 → (decide (an < 0) != decide (bn < 0)) = decide (an * bn < 0) := by
  intro h
  have a0 : an ≠ 0 := fun e => h (by rw [e]; simp)
  have b0 : bn ≠ 0 := fun e => h (by rw [e]; simp)
  by_cases ca : an < 0 <;> by_cases cb : bn < 0
  ·have := Int.mul_pos_of_neg_of_neg ca cb
   simp [ca, cb]; omega
  ·have := Int.mul_neg_of_neg_of_pos ca (show 0 < bn by omega)
   simp [ca, cb, this]
  ·have := Int.mul_neg_of_pos_of_neg (show 0 < an by omega) cb
   simp [ca, cb, this]
  ·have := Int.mul_pos (show 0 < an by omega) (show 0 < bn by omega)
   simp [ca, cb]; omega
 unfold mulF redF
 rw [nz]
 generalize (decide (an < 0) != decide (bn < 0)) = neg at *
 generalize decide (an * bn < 0) = neg' at *
 generalize an.natAbs = x at *
 generalize bn.natAbs = u at *
 generalize ad.natAbs = y at *
 generalize bd.natAbs = v at *
 generalize Nat.gcd x v = g at *
 generalize Nat.gcd u y = h at *
 generalize x / g = x' at *
 generalize v / g = v' at *
 generalize u / h = u' at *
 generalize y / h = y' at *
 have c3 : Nat.gcd x' y' = 1 := Nat.Coprime.coprime_mul_left (k := g) (Nat.Coprime.coprime_mul_left_right (k := h) (by rw [ex, ey]; exact ga))
 have c4 : Nat.gcd u' v' = 1 := Nat.Coprime.coprime_mul_left (k := h) (Nat.Coprime.coprime_mul_left_right (k := g) (by rw [eu, ev]; exact gb))
 have cc : Nat.gcd (x' * u') (y' * v') = 1 := Nat.Coprime.mul_left (Nat.Coprime.mul_right c3 c1) (Nat.Coprime.mul_right c2 c4)
 have hgh : 0 < g * h := Nat.mul_pos hg hh
 have e1 : x * u = g * h * (x' * u') := by rw [← ex, ← eu]; grind
 have e2 : y * v = g * h * (y' * v') := by rw [← ey, ← ev]; grind
 have e3 : Nat.gcd (x * u) (y * v) = g * h := by rw [e1, e2, Nat.gcd_mul_left, cc, Nat.mul_one]
 rw [e3, e2, Nat.mul_div_cancel_left _ hgh]
 by_cases c : x * u = 0
 ·have z : x' * u' = 0 := by
   rw [e1] at c
   rcases Nat.mul_eq_zero.1 c with c | c
   ·omega
   ·exact c
  rw [z, c, Nat.zero_div, lowF_zero neg, lowF_zero neg']
 ·rw [sg c, e1, Nat.mul_div_cancel_left _ hgh]
theorem redF_cases (N : Int) (D : Nat) : redF N D = (0, 0, 16) ∨ ∃ n d, redF N D = (n, d, 0) := by
 unfold redF lowF
 split
 ·exact .inl rfl
 ·exact .inr ⟨_, _, rfl⟩
theorem redF_val {N n d e : Int} {D : Nat} (hD : 0 < D) (h : redF N D = (n, d, e)) (he : e = 0) : VF n d ∧ n * D = N * d := by
 unfold redF at h
 have hp : 0 < Nat.gcd N.natAbs D := Nat.gcd_pos_of_pos_right _ hD
 have e1 := Nat.mul_div_cancel' (Nat.gcd_dvd_left N.natAbs D)
 have e2 := Nat.mul_div_cancel' (Nat.gcd_dvd_right N.natAbs D)
 have co : Nat.gcd (N.natAbs / Nat.gcd N.natAbs D) (D / Nat.gcd N.natAbs D) = 1 := Nat.coprime_div_gcd_div_gcd hp
 generalize Nat.gcd N.natAbs D = g at *
 generalize N.natAbs / g = m at *
 generalize D / g = k at *
 have k0 : 0 < k := Nat.pos_of_ne_zero (fun z => by rw [z] at e2; omega)
 unfold lowF at h
 by_cases c : 1000000000000000000 < m ∨ 1000000000000000000 < k
 ·rw [if_pos c] at h
  cases h; cases he
 ·rw [if_neg c] at h
  simp only [Prod.mk.injEq] at h
  obtain ⟨h1, h2, _⟩ := h
  subst h1 h2
  have eN : (g : Int) * m = if N < 0 then -N else N := by
   have : ((g * m : Nat) : Int) = (N.natAbs : Int) := by rw [e1]
   push_cast at this
   split <;> omega
  have eD : (g : Int) * k = D := by exact_mod_cast e2
  by_cases cn : N < 0
  ·rw [if_pos cn] at eN
   simp only [cn, decide_true, if_true]
   refine ⟨⟨by omega, by omega, by omega, by omega, by simpa using co⟩, ?_⟩
   rw [← eD]; grind
  ·rw [if_neg cn] at eN
   simp only [cn, decide_false, Bool.false_eq_true, if_false]
   refine ⟨⟨by omega, by omega, by omega, by omega, by simpa using co⟩, ?_⟩
   rw [← eD]; grind
theorem VF.same {n d m k : Int} (h : VF n d) (h' : VF m k) (e : n * k = m * d) : n = m ∧ d = k := by
 have d1 := h.d1
 have k1 := h'.d1
 have en : n.natAbs * k.natAbs = m.natAbs * d.natAbs := by rw [← Int.natAbs_mul, ← Int.natAbs_mul, e]
 have a : d.natAbs ∣ k.natAbs := Nat.Coprime.dvd_of_dvd_mul_left (show Nat.Coprime d.natAbs n.natAbs from Nat.Coprime.symm h.g) (en ▸ Nat.dvd_mul_left _ _)
 have b : k.natAbs ∣ d.natAbs := Nat.Coprime.dvd_of_dvd_mul_left (show Nat.Coprime k.natAbs m.natAbs from Nat.Coprime.symm h'.g) (en ▸ Nat.dvd_mul_left _ _)
 have ed : d = k := by have := Nat.dvd_antisymm a b; omega
 subst ed
 refine ⟨?_, rfl⟩
 exact Int.eq_of_mul_eq_mul_right (by omega) e
end Go.Proofs.YtbbnkclajpaghaaGreatDoor
namespace Go.Proofs.YtbbnkclajpaghaaGreatDoor
theorem makeF_red {a D : Int} (hD : 0 < D) : makeF a D = redF a D.natAbs := by
 unfold makeF redF
 rw [if_neg (by omega), show decide (D < 0) = false from decide_eq_false (by omega)]
 simp
theorem part_of {a D : Int} (hD : 1 ≤ D) (hD' : D ≤ 1000000000) (ha : -1000000000 ≤ a) (ha' : a ≤ 1000000000) : ∃ n d, makeF a D = (n, d, 0) ∧ VF n d ∧ n * D = a * d := by
 rw [makeF_red (by omega)]
 rcases redF_cases a D.natAbs with h | ⟨n, d, h⟩
 ·exfalso
  unfold redF lowF at h
  have h1 := Nat.div_le_self a.natAbs (Nat.gcd a.natAbs D.natAbs)
  have h2 := Nat.div_le_self D.natAbs (Nat.gcd a.natAbs D.natAbs)
  rw [if_neg (by omega)] at h
  injection h with _ h
  injection h with _ h
  cases h
 ·have := redF_val (by omega) h rfl
  refine ⟨n, d, h, this.1, ?_⟩
  have h2 := this.2
  rw [show ((D.natAbs : Nat) : Int) = D by omega] at h2
  exact h2
def lnF (r : Vr) : List (List UInt8) := [Lib.itoa r.t, Lib.itoa r.c, Lib.itoa r.i, Lib.itoa r.j, textL (makeF r.re r.dn).1 (makeF r.re r.dn).2.1, textL (makeF r.im r.dn).1 (makeF r.im r.dn).2.1, Lib.itoa r.n]
def lnL (r : Vr) : List UInt8 := Lib.join (lnF r) [32]
theorem rowB_val {r : Vr} (h : rowB r = true) : 0 ≤ r.n ∧ r.n ≤ 1000000 ∧ Cxm.chkB r.re r.im r.dn = true ∧ (∃ n d, makeF r.re r.dn = (n, d, 0) ∧ VF n d ∧ n * r.dn = r.re * d) ∧ (∃ n d, makeF r.im r.dn = (n, d, 0) ∧ VF n d ∧ n * r.dn = r.im * d) ∧ Nat.gcd (Nat.gcd r.re.natAbs r.im.natAbs) r.dn.natAbs = 1 := by
 simp only [rowB, visB, Bool.and_eq_true, decide_eq_true_eq] at h
 obtain ⟨-, -, -, -, -, -, -, hv, h0, h1⟩ := h
 have hv' := hv
 simp only [valB, Cxm.chkB, Cxm.fitsB, Bool.and_eq_true, decide_eq_true_eq] at hv'
 obtain ⟨hd, hr, hi, hg⟩ := hv'
 refine ⟨h0, h1, hv, part_of hd.1 hd.2 hr.1 hr.2, part_of hd.1 hd.2 hi.1 hi.2, ?_⟩
 simp only [Cxm.g3, Cxm.g2, Int.gcd] at hg
 simp only [Int.natAbs_natCast] at hg
 omega
def mkO (t c i j n1 d1 n2 d2 n : Int) : Option Vr :=
 if i < 0 ∨ 8 ≤ i ∨ j < 0 ∨ 8 ≤ j ∨ i = j ∨ n < 0 ∨ 1000000 < n then none
 else match valO n1 d1 n2 d2 with
  | none => none
  | some (a, b, D) => if j < i then some ⟨t, c, j, i, a, -b, D, n⟩ else some ⟨t, c, i, j, a, b, D, n⟩
def prP (l : List UInt8) : Option Vr := match wordsL 32 l with
 | [a, b, c, d, e, f, g] => match Lib.atoiAll a, Lib.atoiAll b, Lib.atoiAll c, Lib.atoiAll d, Lib.atoiAll g with
  | .ok t, .ok ch, .ok i, .ok j, .ok n => if (prC e).2.2 = 0 ∧ (prC f).2.2 = 0 then mkO t ch i j (prC e).1 (prC e).2.1 (prC f).1 (prC f).2.1 n else none
  | _, _, _, _, _ => none
 | _ => none
def txT (t : List Vr) : List UInt8 := (t.map fun r => lnL r ++ [10]).flatten
theorem txT_cons (r : Vr) (t : List Vr) : txT (r :: t) = lnL r ++ 10 :: txT t := by simp [txT]
theorem goodF_rows : ∀ {q : Option Vr} {l : List Vr}, goodF q l = true → ∀ r ∈ l, rowB r = true
 | _, [], _, r, hr => by cases hr
 | none, x :: l, h, r, hr => by
  simp only [goodF, Bool.and_eq_true] at h
  rcases List.mem_cons.1 hr with rfl | hr
  ·exact h.1
  ·exact goodF_rows h.2 r hr
 | some q, x :: l, h, r, hr => by
  simp only [goodF, Bool.and_eq_true] at h
  rcases List.mem_cons.1 hr with rfl | hr
  ·exact h.1
  ·exact goodF_rows h.2.2 r hr
theorem chk_rows {t : List Vr} (h : chkE t = 0) : t.length ≤ 200 ∧ ∀ r ∈ t, rowB r = true := by
 unfold chkE at h
 split at h
 ·cases h
 ·split at h
  ·rename_i hg
   exact ⟨by omega, goodF_rows hg⟩
  ·cases h
def allO (f : List UInt8 → Option Vr) : List (List UInt8) → Option (List Vr)
 | [] => some []
 | l :: ls => match f l, allO f ls with
  | some r, some t => some (r :: t)
  | _, _ => none
def parP (s : List UInt8) : Option (List Vr) := match allO prP (linesL (s.length + 1) s) with
 | some t => if chkE t = 0 ∧ txT t = s then some t else none
 | none => none
end Go.Proofs.YtbbnkclajpaghaaGreatDoor
namespace Go.Proofs.YtbbnkclajpaghaaGreatDoor
theorem chkB_lim {a b D : Int} (h : Cxm.chkB a b D = true) : -1000000000 ≤ a ∧ a ≤ 1000000000 ∧ -1000000000 ≤ b ∧ b ≤ 1000000000 ∧ 1 ≤ D ∧ D ≤ 1000000000 := by
 simp only [Cxm.chkB, Cxm.fitsB, Bool.and_eq_true, decide_eq_true_eq] at h
 omega
theorem valD_dvd (d1 d2 : Int) : d1 ∣ valD d1 d2 ∧ d2 ∣ valD d1 d2 := by
 unfold valD
 exact ⟨by rw [← Int.natAbs_dvd_natAbs]; exact Nat.dvd_lcm_left _ _, by rw [← Int.natAbs_dvd_natAbs]; exact Nat.dvd_lcm_right _ _⟩
theorem valD_pos {d1 d2 : Int} (h1 : 1 ≤ d1) (h2 : 1 ≤ d2) : 1 ≤ valD d1 d2 := by
 unfold valD
 have := Nat.lcm_pos (show 0 < d1.natAbs by omega) (show 0 < d2.natAbs by omega)
 omega
theorem valD_ge {d1 d2 : Int} (h1 : 1 ≤ d1) (h2 : 1 ≤ d2) : d1 ≤ valD d1 d2 ∧ d2 ≤ valD d1 d2 := by
 have := valD_pos h1 h2
 exact ⟨Int.le_of_dvd (by omega) (valD_dvd d1 d2).1, Int.le_of_dvd (by omega) (valD_dvd d1 d2).2⟩
theorem valD_mul {d1 d2 : Int} (h1 : 1 ≤ d1) (h2 : 1 ≤ d2) : d1 * d2 = (Nat.gcd d1.natAbs d2.natAbs : Nat) * valD d1 d2 := by
 unfold valD
 rw [← Int.natCast_mul, Nat.gcd_mul_lcm, Int.natCast_mul]
 rw [show ((d1.natAbs : Nat) : Int) = d1 by omega, show ((d2.natAbs : Nat) : Int) = d2 by omega]
theorem valO_far {n1 d1 n2 d2 : Int} (h : 1000000000 < valD d1 d2) : valO n1 d1 n2 d2 = none := by unfold valO; rw [if_neg (by omega)]
theorem valO_no {n1 d1 n2 d2 : Int} (h : Cxm.chkB (n1 * (valD d1 d2 / d1)) (n2 * (valD d1 d2 / d2)) (valD d1 d2) = false) : valO n1 d1 n2 d2 = none := by unfold valO; rw [if_neg (by rw [h]; simp)]
theorem valO_yes {n1 d1 n2 d2 : Int} (h : Cxm.chkB (n1 * (valD d1 d2 / d1)) (n2 * (valD d1 d2 / d2)) (valD d1 d2) = true) : valO n1 d1 n2 d2 = some (n1 * (valD d1 d2 / d1), n2 * (valD d1 d2 / d2), valD d1 d2) := by unfold valO; rw [if_pos ⟨(chkB_lim h).2.2.2.2.2, h⟩]
theorem valO_out {n1 d1 n2 d2 : Int} (h : 1000000000 < (n1 * (valD d1 d2 / d1)).natAbs ∨ 1000000000 < (n2 * (valD d1 d2 / d2)).natAbs) : valO n1 d1 n2 d2 = none := by
 refine valO_no ?_
 cases e : Cxm.chkB (n1 * (valD d1 d2 / d1)) (n2 * (valD d1 d2 / d2)) (valD d1 d2) with
 | false => rfl
 | true => have := chkB_lim e; omega
theorem part_ge {n d D : Int} (hd : 1 ≤ d) (hD : 1 ≤ D) (h : d ∣ D) : n.natAbs ≤ (n * (D / d)).natAbs := by
 obtain ⟨k, rfl⟩ := h
 rw [Int.mul_ediv_cancel_left _ (by omega), Int.natAbs_mul]
 have : 0 < k.natAbs := by
  rcases Nat.eq_zero_or_pos k.natAbs with h | h
  ·have : k = 0 := by omega
   subst this; omega
  ·exact h
 exact Nat.le_mul_of_pos_right _ this
end Go.Proofs.YtbbnkclajpaghaaGreatDoor
namespace Go.Proofs.YtbbnkclajpaghaaGreatDoor
section
variable {α : Type} {key : α → Int}
def Srt (key : α → Int) (l : List α) : Prop := l.Pairwise fun a b => key a ≤ key b
def FE (key : α → Int) (l m : List α) : Prop := ∀ k, l.filter (fun a => key a == k) = m.filter (fun a => key a == k)
theorem FE.refl (l : List α) : FE key l l := fun _ => rfl
theorem FE.symm {l m : List α} (h : FE key l m) : FE key m l := fun k => (h k).symm
theorem FE.trans {l m n : List α} (h : FE key l m) (h' : FE key m n) : FE key l n := fun k => (h k).trans (h' k)
theorem FE.app {l m l' m' : List α} (h : FE key l m) (h' : FE key l' m') : FE key (l ++ l') (m ++ m') := fun k => by rw [List.filter_append, List.filter_append, h k, h' k]
theorem FE.swap {l m : List α} (h : ∀ a ∈ l, ∀ b ∈ m, key a ≠ key b) : FE key (l ++ m) (m ++ l) := fun k => by
 rw [List.filter_append, List.filter_append]
 by_cases hk : ∃ a ∈ l, key a = k
 ·obtain ⟨a, ha, e⟩ := hk
  have : m.filter (fun a => key a == k) = [] := List.filter_eq_nil_iff.2 fun b hb => by
   have := h a ha b hb
   simp; omega
  rw [this, List.append_nil, List.nil_append]
 ·have : l.filter (fun a => key a == k) = [] := List.filter_eq_nil_iff.2 fun a ha => by
   simp; exact fun e => hk ⟨a, ha, e⟩
  rw [this, List.append_nil, List.nil_append]
theorem FE.mem {l m : List α} (h : FE key l m) {a : α} : a ∈ l ↔ a ∈ m := by
 have e := h (key a)
 constructor
 ·intro ha
  have : a ∈ l.filter (fun b => key b == key a) := List.mem_filter.2 ⟨ha, by simp⟩
  rw [e] at this
  exact (List.mem_filter.1 this).1
 ·intro ha
  have : a ∈ m.filter (fun b => key b == key a) := List.mem_filter.2 ⟨ha, by simp⟩
  rw [← e] at this
  exact (List.mem_filter.1 this).1
theorem Srt.app {l m : List α} : Srt key (l ++ m) ↔ Srt key l ∧ Srt key m ∧ ∀ a ∈ l, ∀ b ∈ m, key a ≤ key b := List.pairwise_append
theorem Srt.one (a : α) : Srt key [a] := List.pairwise_singleton ..
theorem Srt.nil : Srt key ([] : List α) := List.Pairwise.nil
theorem Srt.unique : ∀ {l m : List α}, Srt key l → Srt key m → FE key l m → l = m
 | [], m, _, _, h => by
  cases m with
  | nil => rfl
  | cons b m => exact absurd ((h.mem (a := b)).2 (List.mem_cons_self ..)) (by simp)
 | a :: l, m, hl, hm, h => by
  cases m with
  | nil => exact absurd ((h.mem (a := a)).1 (List.mem_cons_self ..)) (by simp)
  | cons b m =>
   obtain ⟨h1, h2⟩ := List.pairwise_cons.1 hl
   obtain ⟨h3, h4⟩ := List.pairwise_cons.1 hm
   have hab : key a = key b := by
    have ha : a ∈ b :: m := (h.mem (a := a)).1 (List.mem_cons_self ..)
    have hb : b ∈ a :: l := (h.mem (a := b)).2 (List.mem_cons_self ..)
    have k1 : key b ≤ key a := by
     rcases List.mem_cons.1 ha with e | e
     ·rw [e]; exact Int.le_refl _
     ·exact h3 a e
    have k2 : key a ≤ key b := by
     rcases List.mem_cons.1 hb with e | e
     ·rw [e]; exact Int.le_refl _
     ·exact h1 b e
    omega
   have e := h (key a)
   rw [List.filter_cons_of_pos (by simp), List.filter_cons_of_pos (by simp [hab])] at e
   injection e with e1 e2
   subst e1
   congr 1
   refine Srt.unique h2 h4 fun k => ?_
   by_cases hk : key a = k
   ·rw [← hk]; exact e2
   ·have := h k
    rwa [List.filter_cons_of_neg (by simpa using hk), List.filter_cons_of_neg (by simpa using hk)] at this
structure Part (key : α → Int) (U V : List α) (u v : Nat) : Prop where
 hu : u ≤ U.length
 hv : v ≤ V.length
 lo : ∀ a ∈ U.take u, ∀ b ∈ V.drop v, key a ≤ key b
 hi : ∀ a ∈ U.drop u, ∀ b ∈ V.take v, key b < key a
theorem Part.merge {U V : List α} {u v : Nat} (p : Part key U V u v) (hU : Srt key U) (hV : Srt key V) {X Y : List α} (hX : Srt key X) (hY : Srt key Y)
  (fX : FE key (U.take u ++ V.take v) X) (fY : FE key (U.drop u ++ V.drop v) Y) : Srt key (X ++ Y) ∧ FE key (U ++ V) (X ++ Y) := by
 have sU : U.take u ++ U.drop u = U := List.take_append_drop ..
 have sV : V.take v ++ V.drop v = V := List.take_append_drop ..
 constructor
 ·rw [Srt.app]
  refine ⟨hX, hY, fun a ha b hb => ?_⟩
  have ha' := (fX.mem (a := a)).2 ha
  have hb' := (fY.mem (a := b)).2 hb
  rcases List.mem_append.1 ha' with h1 | h1 <;> rcases List.mem_append.1 hb' with h2 | h2
  ·rw [← sU, Srt.app] at hU; exact hU.2.2 a h1 b h2
  ·exact p.lo a h1 b h2
  ·have := p.hi b h2 a h1; omega
  ·rw [← sV, Srt.app] at hV; exact hV.2.2 a h1 b h2
 ·have e1 : FE key (U ++ V) (U.take u ++ (U.drop u ++ V.take v) ++ V.drop v) := by
   rw [← List.append_assoc, sU, List.append_assoc, sV]; exact FE.refl _
  have e2 : FE key (U.take u ++ (U.drop u ++ V.take v) ++ V.drop v) (U.take u ++ (V.take v ++ U.drop u) ++ V.drop v) :=
   ((FE.refl _).app (FE.swap fun a ha b hb => by have := p.hi a ha b hb; omega)).app (FE.refl _)
  have e3 : U.take u ++ (V.take v ++ U.drop u) ++ V.drop v = (U.take u ++ V.take v) ++ (U.drop u ++ V.drop v) := by simp
  rw [e3] at e2
  exact (e1.trans e2).trans (fX.app fY)
theorem Srt.get {l : List α} (h : Srt key l) {i j : Nat} {a b : α} (hij : i ≤ j) (ha : l[i]? = some a) (hb : l[j]? = some b) : key a ≤ key b := by
 by_cases e : i = j
 ·subst e; rw [ha] at hb; injection hb with hb; rw [hb]; exact Int.le_refl _
 ·obtain ⟨hi, rfl⟩ := List.getElem?_eq_some_iff.1 ha
  obtain ⟨hj, rfl⟩ := List.getElem?_eq_some_iff.1 hb
  exact List.pairwise_iff_getElem.1 h i j hi hj (by omega)
theorem mem_take_get {l : List α} {n : Nat} {a : α} (h : a ∈ l.take n) : ∃ i, i < n ∧ l[i]? = some a := by
 obtain ⟨i, hi⟩ := List.mem_iff_getElem?.1 h
 rw [List.getElem?_take] at hi
 split at hi
 ·exact ⟨i, by assumption, hi⟩
 ·cases hi
theorem mem_drop_get {l : List α} {n : Nat} {a : α} (h : a ∈ l.drop n) : ∃ i, n ≤ i ∧ l[i]? = some a := by
 obtain ⟨i, hi⟩ := List.mem_iff_getElem?.1 h
 rw [List.getElem?_drop] at hi
 exact ⟨n + i, by omega, hi⟩
theorem Part.mk_ {U V : List α} {u v : Nat} (hU : Srt key U) (hV : Srt key V) (hu : u ≤ U.length) (hv : v ≤ V.length)
  (lo : ∀ a b, 0 < u → U[u - 1]? = some a → V[v]? = some b → key a ≤ key b) (hi : ∀ a b, 0 < v → U[u]? = some a → V[v - 1]? = some b → key b < key a) : Part key U V u v where
 hu := hu
 hv := hv
 lo := fun a ha b hb => by
  obtain ⟨i, hi, hia⟩ := mem_take_get ha
  obtain ⟨j, hj, hjb⟩ := mem_drop_get hb
  have hvl : v < V.length := Nat.lt_of_le_of_lt hj (List.getElem?_eq_some_iff.1 hjb).1
  have h1 := hU.get (show i ≤ u - 1 by omega) hia (List.getElem?_eq_getElem (show u - 1 < U.length by omega))
  have h2 := hV.get hj (List.getElem?_eq_getElem hvl) hjb
  have h3 := lo _ _ (by omega) (List.getElem?_eq_getElem (show u - 1 < U.length by omega)) (List.getElem?_eq_getElem hvl)
  omega
 hi := fun a ha b hb => by
  obtain ⟨i, hi', hia⟩ := mem_drop_get ha
  obtain ⟨j, hj, hjb⟩ := mem_take_get hb
  have hul : u < U.length := Nat.lt_of_le_of_lt hi' (List.getElem?_eq_some_iff.1 hia).1
  have h1 := hU.get hi' (List.getElem?_eq_getElem hul) hia
  have h2 := hV.get (show j ≤ v - 1 by omega) hjb (List.getElem?_eq_getElem (show v - 1 < V.length by omega))
  have h3 := hi _ _ (by omega) (List.getElem?_eq_getElem hul) (List.getElem?_eq_getElem (show v - 1 < V.length by omega))
  omega
end
end Go.Proofs.YtbbnkclajpaghaaGreatDoor
namespace Go.Proofs.YtbbnkclajpaghaaGreatDoor
def ptN (b : Bool) (r : Vr) : Int := if b then r.im else r.re
def wgt : List Vr → Int
 | [] => 0
 | r :: l => r.n + wgt l
def rnd (b : Bool) (n d : Int) (r : Vr) : Int × Int × Int :=
 if (mulR r.n 1 (makeF (ptN b r) r.dn).1 (makeF (ptN b r) r.dn).2.1).2.2 ≠ 0 then (0, 0, (mulR r.n 1 (makeF (ptN b r) r.dn).1 (makeF (ptN b r) r.dn).2.1).2.2)
 else addR n d (mulR r.n 1 (makeF (ptN b r) r.dn).1 (makeF (ptN b r) r.dn).2.1).1 (mulR r.n 1 (makeF (ptN b r) r.dn).1 (makeF (ptN b r) r.dn).2.1).2.1
def sumS (b : Bool) : Int → Int → List Vr → Int × Int × Int
 | n, d, [] => (n, d, 0)
 | n, d, r :: l => if (rnd b n d r).2.2 ≠ 0 then (0, 0, (rnd b n d r).2.2) else sumS b (rnd b n d r).1 (rnd b n d r).2.1 l
def avgR (b : Bool) (l : List Vr) : Int × Int × Int :=
 if (sumS b 0 1 l).2.2 ≠ 0 then (0, 0, (sumS b 0 1 l).2.2) else divR (sumS b 0 1 l).1 (sumS b 0 1 l).2.1 (wgt l) 1
def zV : Vr := ⟨0, 0, 0, 0, 0, 0, 0, 0⟩
def hdV (l : List Vr) : Vr := l.headD zV
def meanF (l : List Vr) : Int × Vr :=
 if wgt l = 0 then (18, zV) else if (avgR false l).2.2 ≠ 0 then ((avgR false l).2.2, zV) else if (avgR true l).2.2 ≠ 0 then ((avgR true l).2.2, zV)
 else match valO (avgR false l).1 (avgR false l).2.1 (avgR true l).1 (avgR true l).2.1 with
  | none => (16, zV)
  | some (a, b, D) => if 1000000 < wgt l then (16, zV) else (0, ⟨(hdV l).t, (hdV l).c, (hdV l).i, (hdV l).j, a, b, D, wgt l⟩)
theorem VF.ne {n d : Int} (v : VF n d) : (d : Rat) ≠ 0 := by
 have := v.d1
 have : d ≠ 0 := by omega
 exact_mod_cast this
theorem natAbs_cast {d : Int} (h : 0 ≤ d) : ((d.natAbs : Nat) : Int) = d := by omega
theorem rat_of {n d N D : Int} (hd : d ≠ 0) (hD : D ≠ 0) (h : n * D = N * d) : (n : Rat) / d = N / D := by
 have h1 : (d : Rat) ≠ 0 := by exact_mod_cast hd
 have h2 : (D : Rat) ≠ 0 := by exact_mod_cast hD
 have h3 : (n : Rat) * D = N * d := by exact_mod_cast h
 grind
theorem red_val {N n d e : Int} {D : Nat} (hD : 0 < D) (h : redF N D = (n, d, e)) : e = 16 ∨ (e = 0 ∧ VF n d ∧ (n : Rat) / d = N / (D : Int)) := by
 rcases redF_cases N D with h' | ⟨n', d', h'⟩
 ·rw [h'] at h; injection h with _ h; injection h with _ h; exact .inl h.symm
 ·rw [h'] at h
  injection h with h1 h; injection h with h2 h3
  subst h1 h2 h3
  have := redF_val hD h' rfl
  have d1 := this.1.d1
  exact .inr ⟨rfl, this.1, rat_of (by omega) (by omega) this.2⟩
theorem mul_val {an ad bn bd n d e : Int} (va : VF an ad) (vb : VF bn bd) (h : mulR an ad bn bd = (n, d, e)) : e = 16 ∨ (e = 0 ∧ VF n d ∧ (n : Rat) / d = (an / ad) * (bn / bd)) := by
 unfold mulR at h
 rw [if_pos (va.both vb), mulF_red va vb] at h
 have h1 := va.d1
 have h2 := vb.d1
 rcases red_val (Nat.mul_pos (show 0 < ad.natAbs by omega) (show 0 < bd.natAbs by omega)) h with h | ⟨h, v, e⟩
 ·exact .inl h
 ·refine .inr ⟨h, v, ?_⟩
  rw [e, Int.natCast_mul, natAbs_cast (by omega), natAbs_cast (by omega)]
  have := va.ne
  have := vb.ne
  push_cast
  grind
theorem add_val {an ad bn bd n d e : Int} (va : VF an ad) (vb : VF bn bd) (h : addR an ad bn bd = (n, d, e)) : e = 16 ∨ (e = 0 ∧ VF n d ∧ (n : Rat) / d = an / ad + bn / bd) := by
 unfold addR at h
 rw [if_pos (va.both vb), addF_red va vb] at h
 have h1 := va.d1
 have h2 := vb.d1
 rcases red_val (Nat.mul_pos (show 0 < ad.natAbs by omega) (show 0 < bd.natAbs by omega)) h with h | ⟨h, v, e⟩
 ·exact .inl h
 ·refine .inr ⟨h, v, ?_⟩
  rw [e, Int.natCast_mul, natAbs_cast (by omega), natAbs_cast (by omega)]
  have := va.ne
  have := vb.ne
  push_cast
  grind
theorem div_val {an ad N n d e : Int} (va : VF an ad) (vb : VF N 1) (hN : 0 < N) (h : divR an ad N 1 = (n, d, e)) : e = 16 ∨ (e = 0 ∧ VF n d ∧ (n : Rat) / d = (an / ad) / N) := by
 unfold divR at h
 rw [if_pos (va.both vb), if_neg (by omega), if_neg (by omega), mulF_red va (vb.over.2 hN)] at h
 have h1 := va.d1
 rcases red_val (Nat.mul_pos (show 0 < ad.natAbs by omega) (show 0 < N.natAbs by omega)) h with h | ⟨h, v, e⟩
 ·exact .inl h
 ·refine .inr ⟨h, v, ?_⟩
  rw [e, Int.natCast_mul, natAbs_cast (by omega), natAbs_cast (by omega)]
  have := va.ne
  have : (N : Rat) ≠ 0 := by
   have : N ≠ 0 := by omega
   exact_mod_cast this
  push_cast
  grind
theorem vis_val {r : Vr} (h : visB r = true) : 0 ≤ r.n ∧ r.n ≤ 1000000 ∧ Cxm.chkB r.re r.im r.dn = true ∧ 1 ≤ r.dn ∧ r.dn ≤ 1000000000 ∧ -1000000000 ≤ r.re ∧ r.re ≤ 1000000000 ∧ -1000000000 ≤ r.im ∧ r.im ≤ 1000000000 := by
 simp only [visB, Bool.and_eq_true, decide_eq_true_eq] at h
 obtain ⟨-, -, -, hv, h0, h1⟩ := h
 have := chkB_lim hv
 exact ⟨h0, h1, hv, by omega, by omega, by omega, by omega, by omega, by omega⟩
theorem pt_val (b : Bool) {r : Vr} (h : visB r = true) : -1000000000 ≤ ptN b r ∧ ptN b r ≤ 1000000000 ∧ ∃ n d, makeF (ptN b r) r.dn = (n, d, 0) ∧ VF n d ∧ (n : Rat) / d = ptN b r / r.dn := by
 have h1 := vis_val h
 have h2 : -1000000000 ≤ ptN b r ∧ ptN b r ≤ 1000000000 := by cases b <;> simp only [ptN] <;> omega
 obtain ⟨n, d, e, v, m⟩ := part_of (a := ptN b r) (D := r.dn) (by omega) (by omega) h2.1 h2.2
 have := v.d1
 exact ⟨h2.1, h2.2, n, d, e, v, rat_of (by omega) (by omega) m⟩
theorem VF.int {n : Int} (h : -1000000000000000000 ≤ n) (h' : n ≤ 1000000000000000000) : VF n 1 := ⟨by decide, by decide, h, h', by simp⟩
theorem rnd_val (b : Bool) {n d n' d' e : Int} {r : Vr} (v : VF n d) (hr : visB r = true) (h : rnd b n d r = (n', d', e)) : e = 16 ∨ (e = 0 ∧ VF n' d' ∧ (n' : Rat) / d' = n / d + r.n * ptN b r / r.dn) := by
 obtain ⟨-, -, x, y, hm, vx, ex⟩ := pt_val b hr
 have h0 := vis_val hr
 unfold rnd at h
 rw [hm] at h
 simp only at h
 have vn : VF r.n 1 := VF.int (by omega) (by omega)
 obtain ⟨p, q, k, hp⟩ : ∃ p q k, mulR r.n 1 x y = (p, q, k) := ⟨_, _, _, rfl⟩
 rw [hp] at h
 simp only at h
 rcases mul_val vn vx hp with hk | ⟨hk, vp, ep⟩
 ·rw [if_pos (by omega)] at h
  injection h with _ h; injection h with _ h
  exact .inl (by omega)
 ·rw [if_neg (by omega)] at h
  rcases add_val v vp h with h | ⟨h, v', e'⟩
  ·exact .inl h
  ·refine .inr ⟨h, v', ?_⟩
   rw [e', ep, ex]
   have := v.ne
   push_cast
   grind
def tot (b : Bool) : List Vr → Rat
 | [] => 0
 | r :: l => r.n * ptN b r / r.dn + tot b l
theorem wgt_append (l m : List Vr) : wgt (l ++ m) = wgt l + wgt m := by
 induction l with
 | nil => simp [wgt]
 | cons r l ih => simp only [List.cons_append, wgt, ih]; omega
theorem sumS_val (b : Bool) : ∀ {l : List Vr} {n d n' d' e : Int}, VF n d → (∀ r ∈ l, visB r = true) → sumS b n d l = (n', d', e) → e = 16 ∨ (e = 0 ∧ VF n' d' ∧ (n' : Rat) / d' = n / d + tot b l)
 | [], n, d, n', d', e, v, _, h => by
  simp only [sumS] at h
  injection h with h1 h; injection h with h2 h3
  subst h1 h2 h3
  exact .inr ⟨rfl, v, by simp only [tot]; grind⟩
 | r :: l, n, d, n', d', e, v, hl, h => by
  simp only [sumS] at h
  obtain ⟨p, q, k, hp⟩ : ∃ p q k, rnd b n d r = (p, q, k) := ⟨_, _, _, rfl⟩
  rw [hp] at h
  simp only at h
  rcases rnd_val b v (hl r (List.mem_cons_self ..)) hp with hk | ⟨hk, vp, ep⟩
  ·rw [if_pos (by omega)] at h
   injection h with _ h; injection h with _ h
   exact .inl (by omega)
  ·rw [if_neg (by omega)] at h
   rcases sumS_val b vp (fun x hx => hl x (List.mem_cons_of_mem _ hx)) h with h | ⟨h, v', e'⟩
   ·exact .inl h
   ·refine .inr ⟨h, v', ?_⟩
    rw [e', ep]
    simp only [tot]
    grind
theorem wgt_bd : ∀ {l : List Vr}, (∀ r ∈ l, visB r = true) → 0 ≤ wgt l ∧ wgt l ≤ 1000000 * l.length
 | [], _ => by simp [wgt]
 | r :: l, h => by
  have h1 := wgt_bd (l := l) fun x hx => h x (List.mem_cons_of_mem _ hx)
  have h2 := vis_val (h r (List.mem_cons_self ..))
  simp only [wgt, List.length_cons]
  omega
theorem avgR_val (b : Bool) {l : List Vr} {n d e : Int} (hl : ∀ r ∈ l, visB r = true) (h60 : l.length ≤ 1000) (h0 : wgt l ≠ 0) (h : avgR b l = (n, d, e)) : e = 16 ∨ (e = 0 ∧ VF n d ∧ (n : Rat) / d = tot b l / wgt l) := by
 have hw := wgt_bd hl
 unfold avgR at h
 obtain ⟨p, q, k, hp⟩ : ∃ p q k, sumS b 0 1 l = (p, q, k) := ⟨_, _, _, rfl⟩
 rw [hp] at h
 simp only at h
 rcases sumS_val b (VF.int (by decide) (by decide)) hl hp with hk | ⟨hk, vp, ep⟩
 ·rw [if_pos (by omega)] at h
  injection h with _ h; injection h with _ h
  exact .inl (by omega)
 ·rw [if_neg (by omega)] at h
  rcases div_val vp (VF.int (by omega) (by omega)) (by omega) h with h | ⟨h, v', e'⟩
  ·exact .inl h
  ·refine .inr ⟨h, v', ?_⟩
   rw [e', ep]
   have : ((0 : Int) : Rat) / ((1 : Int) : Rat) + tot b l = tot b l := by grind
   rw [this]
theorem valO_chk' {n1 d1 n2 d2 a b D : Int} (h : valO n1 d1 n2 d2 = some (a, b, D)) : Cxm.chkB a b D = true := by
 unfold valO at h
 split at h
 ·rename_i hh
  injection h with h
  injection h with e1 h
  injection h with e2 e3
  subst e1 e2 e3
  exact hh.2
 ·cases h
structure MeanOk (l : List Vr) (m : Vr) : Prop where
 t : m.t = (hdV l).t
 c : m.c = (hdV l).c
 i : m.i = (hdV l).i
 j : m.j = (hdV l).j
 n : m.n = wgt l
 pos : 0 < wgt l
 le : wgt l ≤ 1000000
 ok : Cxm.chkB m.re m.im m.dn = true
 tot : ∀ b, (m.n : Rat) * ptN b m / m.dn = tot b l
theorem valO_parts {n1 d1 n2 d2 a b D : Int} (v1 : VF n1 d1) (v2 : VF n2 d2) (h : valO n1 d1 n2 d2 = some (a, b, D)) : (a : Rat) / D = n1 / d1 ∧ (b : Rat) / D = n2 / d2 ∧ D ≠ 0 := by
 have h1 := v1.d1
 have h2 := v2.d1
 have hp := valD_pos h1 h2
 obtain ⟨⟨k1, hk1⟩, ⟨k2, hk2⟩⟩ := valD_dvd d1 d2
 unfold valO at h
 split at h
 ·injection h with h
  injection h with e1 h
  injection h with e2 e3
  subst e1 e2
  generalize valD d1 d2 = L at *
  subst e3
  have e1 : L / d1 = k1 := by rw [hk1]; exact Int.mul_ediv_cancel_left _ (by omega)
  have e2 : L / d2 = k2 := by rw [hk2]; exact Int.mul_ediv_cancel_left _ (by omega)
  rw [e1, e2]
  refine ⟨rat_of (by omega) (by omega) ?_, rat_of (by omega) (by omega) ?_, by omega⟩
  ·rw [hk1]; grind
  ·rw [hk2]; grind
 ·cases h
theorem meanF_err {l : List Vr} (hl : ∀ r ∈ l, visB r = true) (h60 : l.length ≤ 1000) : ((meanF l).1 = 18 ∧ wgt l = 0) ∨ ((meanF l).1 = 16 ∧ wgt l ≠ 0) ∨ ((meanF l).1 = 0 ∧ MeanOk l (meanF l).2) := by
 have hw := wgt_bd hl
 unfold meanF
 by_cases h0 : wgt l = 0
 ·rw [if_pos h0]; exact .inl ⟨rfl, h0⟩
 ·right
  rw [if_neg h0]
  obtain ⟨p, q, k, hp⟩ : ∃ p q k, avgR false l = (p, q, k) := ⟨_, _, _, rfl⟩
  obtain ⟨p', q', k', hp'⟩ : ∃ p q k, avgR true l = (p, q, k) := ⟨_, _, _, rfl⟩
  rw [hp, hp']
  simp only
  rcases avgR_val false hl h60 h0 hp with hk | ⟨hk, v, e⟩
  ·rw [if_pos (by omega)]; exact .inl ⟨hk, h0⟩
  rw [if_neg (by omega)]
  rcases avgR_val true hl h60 h0 hp' with hk | ⟨hk, v', e'⟩
  ·rw [if_pos (by omega)]; exact .inl ⟨hk, h0⟩
  rw [if_neg (by omega)]
  cases hv : valO p q p' q' with
  | none => exact .inl ⟨rfl, h0⟩
  | some x =>
   obtain ⟨a, b, D⟩ := x
   simp only
   split
   ·exact .inl ⟨rfl, h0⟩
   ·rename_i h9
    obtain ⟨f1, f2, f3⟩ := valO_parts v v' hv
    refine .inr ⟨rfl, ⟨rfl, rfl, rfl, rfl, rfl, by omega, by omega, valO_chk' hv, fun b => ?_⟩⟩
    have hN : (wgt l : Rat) ≠ 0 := by exact_mod_cast h0
    have hD : (D : Rat) ≠ 0 := by exact_mod_cast f3
    cases b
    ·show (wgt l : Rat) * a / D = _
     rw [e] at f1
     grind
    ·show (wgt l : Rat) * b / D = _
     rw [e'] at f2
     grind
end Go.Proofs.YtbbnkclajpaghaaGreatDoor
namespace Go.Proofs.YtbbnkclajpaghaaGreatDoor
def grps : List Vr → List (List Vr)
 | [] => []
 | r :: l => match grps l with
  | [] => [[r]]
  | g :: gs => if vkey (hdV g) = vkey r then (r :: g) :: gs else [r] :: g :: gs
def avF : List (List Vr) → Int × List Vr
 | [] => (0, [])
 | g :: gs => if (meanF g).1 = 18 then avF gs else if (meanF g).1 ≠ 0 then ((meanF g).1, []) else if (avF gs).1 ≠ 0 then ((avF gs).1, []) else (0, (meanF g).2 :: (avF gs).2)
theorem avF_none : ∀ (L : List (List Vr)), (avF L).1 ≠ 0 → (avF L).2 = []
 | [], h => absurd rfl h
 | g :: gs, h => by
  unfold avF at h ⊢
  split at h
  ·rename_i h1; rw [if_pos h1]; exact avF_none gs h
  ·rename_i h1
   rw [if_neg h1]
   split at h
   ·rename_i h2; rw [if_pos h2]
   ·rename_i h2
    rw [if_neg h2]
    split at h
    ·rename_i h3; rw [if_pos h3]
    ·exact absurd rfl h
def andF (o : List Vr) (x : Int × List Vr) : Int × List Vr := if x.1 ≠ 0 then (x.1, []) else (0, o ++ x.2)
theorem andF_nil (L : List (List Vr)) : andF [] (avF L) = avF L := by
 unfold andF
 by_cases h : (avF L).1 ≠ 0
 ·rw [if_pos h]
  exact Prod.ext rfl (avF_none L h).symm
 ·rw [if_neg h]
  exact Prod.ext (by simp only; omega) rfl
theorem avF_skip {g : List Vr} (h : (meanF g).1 = 18) (o : List Vr) (gs : List (List Vr)) : andF o (avF (g :: gs)) = andF o (avF gs) := by
 rw [avF, if_pos h]
theorem avF_bad {g : List Vr} (h : (meanF g).1 ≠ 18) (h' : (meanF g).1 ≠ 0) (o : List Vr) (gs : List (List Vr)) : andF o (avF (g :: gs)) = ((meanF g).1, []) := by
 rw [avF, if_neg h, if_pos h']
 unfold andF
 rw [if_pos h']
theorem avF_good {g : List Vr} (h : (meanF g).1 = 0) (o : List Vr) (gs : List (List Vr)) : andF o (avF (g :: gs)) = andF (o ++ [(meanF g).2]) (avF gs) := by
 rw [avF, if_neg (by omega), if_neg (by omega)]
 unfold andF
 by_cases h3 : (avF gs).1 ≠ 0
 ·rw [if_pos h3, if_pos h3, if_pos h3]
 ·rw [if_neg h3, if_neg (by simp), if_neg h3, List.append_assoc]
  rfl
theorem andF_end (o : List Vr) : andF o (avF []) = (0, o) := by
 unfold andF avF
 simp
theorem meanF_nil : meanF [] = (18, zV) := by unfold meanF wgt; rw [if_pos rfl]
theorem avF_ne : ∀ (L : List (List Vr)), avF (L.filter fun g => !g.isEmpty) = avF L
 | [] => rfl
 | g :: gs => by
  cases g with
  | nil =>
   rw [List.filter_cons_of_neg (by simp), avF_ne gs, avF, if_pos (by rw [meanF_nil])]
  | cons r l =>
   rw [List.filter_cons_of_pos (by simp)]
   show avF _ = avF _
   rw [avF, avF, avF_ne gs]
theorem grps_head : ∀ {l : List Vr} {g : List Vr} {gs : List (List Vr)}, grps l = g :: gs → ∃ r l' g', l = r :: l' ∧ g = r :: g'
 | [], g, gs, h => by cases h
 | r :: l, g, gs, h => by
  refine ⟨r, l, ?_⟩
  unfold grps at h
  split at h
  ·injection h with h1 h2; exact ⟨[], rfl, h1.symm⟩
  ·split at h
   ·injection h with h1 h2; exact ⟨_, rfl, h1.symm⟩
   ·injection h with h1 h2; exact ⟨[], rfl, h1.symm⟩
theorem grps_run {k : Int} : ∀ {g rest : List Vr}, g ≠ [] → (∀ r ∈ g, vkey r = k) → (∀ r, rest.head? = some r → vkey r ≠ k) → grps (g ++ rest) = g :: grps rest
 | [], _, h, _, _ => absurd rfl h
 | [r], rest, _, h, h' => by
  show grps (r :: rest) = _
  rw [grps]
  cases e : grps rest with
  | nil => rfl
  | cons g gs =>
   obtain ⟨q, l', g', rfl, rfl⟩ := grps_head e
   have h1 := h' q rfl
   have h2 := h r (List.mem_cons_self ..)
   simp only
   rw [if_neg (by show vkey q ≠ vkey r; omega)]
 | r :: q :: g, rest, _, h, h' => by
  have ih := grps_run (g := q :: g) (rest := rest) (by simp) (fun x hx => h x (List.mem_cons_of_mem _ hx)) h'
  show grps (r :: ((q :: g) ++ rest)) = _
  rw [grps, ih]
  simp only
  rw [if_pos (by show vkey q = vkey r; rw [h q (by simp), h r (by simp)])]
theorem tw_mem {p : Vr → Bool} : ∀ {l : List Vr} {r : Vr}, r ∈ l.takeWhile p → p r = true
 | [], r, h => by cases h
 | q :: l, r, h => by
  by_cases c : p q = true
  ·rw [List.takeWhile_cons_of_pos c] at h
   rcases List.mem_cons.1 h with rfl | h
   ·exact c
   ·exact tw_mem h
  ·rw [List.takeWhile_cons_of_neg c] at h; cases h
theorem grps_keys : ∀ {Ks : List Int} {ys : List Vr}, Ks.Pairwise (· < ·) → Srt vkey ys → (∀ r ∈ ys, vkey r ∈ Ks) → (Ks.map fun k => ys.filter fun r => vkey r == k).filter (fun g => !g.isEmpty) = grps ys
 | [], ys, _, _, h => by
  cases ys with
  | nil => rfl
  | cons r l => exact absurd (h r (List.mem_cons_self ..)) (by simp)
 | k :: Ks, ys, hk, hs, h => by
  obtain ⟨hk1, hk2⟩ := List.pairwise_cons.1 hk
  have e : ys = ys.takeWhile (fun r => vkey r == k) ++ ys.dropWhile (fun r => vkey r == k) := (List.takeWhile_append_dropWhile ..).symm
  have h1 : ∀ r ∈ ys.takeWhile (fun r => vkey r == k), vkey r = k := fun r hr => by simpa using tw_mem hr
  have h2 : ∀ r ∈ ys.dropWhile (fun r => vkey r == k), k < vkey r := by
   have hle : ∀ r ∈ ys, k ≤ vkey r := fun r hr => by
    rcases List.mem_cons.1 (h r hr) with e | e
    ·omega
    ·exact Int.le_of_lt (hk1 _ e)
   clear e h1 h hk hk1 hk2
   induction ys with
   | nil => simp
   | cons x l ih =>
    obtain ⟨hx, hl⟩ := List.pairwise_cons.1 hs
    by_cases c : vkey x = k
    ·rw [List.dropWhile_cons_of_pos (by simpa using c)]
     exact ih hl fun r hr => hle r (List.mem_cons_of_mem _ hr)
    ·rw [List.dropWhile_cons_of_neg (by simpa using c)]
     intro r hr
     have := hle x (List.mem_cons_self ..)
     rcases List.mem_cons.1 hr with rfl | hr
     ·omega
     ·have := hx r hr; omega
  have hsub : ∀ r ∈ ys.dropWhile (fun r => vkey r == k), r ∈ ys := fun r hr => by
   have := List.mem_append_right (ys.takeWhile (fun r => vkey r == k)) hr
   rwa [← e] at this
  have hs' : Srt vkey (ys.dropWhile (fun r => vkey r == k)) := by
   unfold Srt at hs
   rw [e] at hs
   exact (List.pairwise_append.1 hs).2.1
  generalize ys.takeWhile (fun r => vkey r == k) = A at *
  generalize ys.dropWhile (fun r => vkey r == k) = B at *
  have ih := grps_keys (Ks := Ks) (ys := B) hk2 hs' fun r hr => by
   rcases List.mem_cons.1 (h r (hsub r hr)) with e | e
   ·have := h2 r hr; omega
   ·exact e
  have f1 : ys.filter (fun r => vkey r == k) = A := by
   rw [e, List.filter_append, List.filter_eq_self.2 (fun r hr => by simp [h1 r hr]), List.filter_eq_nil_iff.2 (fun r hr => by have := h2 r hr; simp; omega), List.append_nil]
  have f2 : (Ks.map fun k => ys.filter fun r => vkey r == k) = (Ks.map fun k => B.filter fun r => vkey r == k) := by
   refine List.map_congr_left fun k' hk' => ?_
   have := hk1 k' hk'
   rw [e, List.filter_append, List.filter_eq_nil_iff.2 (fun r hr => by have := h1 r hr; simp; omega), List.nil_append]
  rw [List.map_cons, f1, f2]
  cases A with
  | nil =>
   rw [List.filter_cons_of_neg (by simp), ih, e, List.nil_append]
  | cons r A =>
   rw [List.filter_cons_of_pos (by simp), ih, e]
   refine (grps_run (k := k) (by simp) h1 fun q hq => ?_).symm
   cases B with
   | nil => cases hq
   | cons x B =>
    injection hq with hq
    subst hq
    have := h2 x (List.mem_cons_self ..)
    omega
def avT (a b : Int) (r : Vr) : Vr := { r with t := r.t.tdiv a, c := r.c.tdiv b }
def byK (l : List Vr) (k : Int) : List Vr := l.filter fun r => vkey r == k
def avK (Ks : List Int) (l : List Vr) : Int × List Vr := avF (Ks.map (byK l))
theorem avK_grps {Ks : List Int} {xs ys : List Vr} (hk : Ks.Pairwise (· < ·)) (hs : Srt vkey ys) (he : FE vkey xs ys) (h : ∀ r ∈ xs, vkey r ∈ Ks) : avK Ks xs = avF (grps ys) := by
 unfold avK
 have e : Ks.map (byK xs) = Ks.map (byK ys) := List.map_congr_left fun k _ => he k
 rw [e, ← avF_ne]
 show avF ((Ks.map fun k => ys.filter fun r => vkey r == k).filter _) = _
 rw [grps_keys hk hs fun r hr => h r (he.mem.2 hr)]
end Go.Proofs.YtbbnkclajpaghaaGreatDoor
