/- Several texts in one. -/
import Derived.Test.YtbbnkclajpaghaaGreatDoorME03
import Derived.Test.YtbbnkclajpaghaaGreatDoorME14
import Derived.Test.YtbbnkclajpaghaaGreatDoorME17
import Derived.Test.YtbbnkclajpaghaaGreatDoorME22
import Derived.Test.YtbbnkclajpaghaaGreatDoorME23
set_option linter.unusedVariables false
set_option linter.unusedSimpArgs false
namespace Go.Proofs.YtbbnkclajpaghaaGreatDoor
section
theorem jn_getD {p q : List Bool} (h : q.length = p.length) (i : Nat) : (jn p q).getD i false = (p.getD i false || q.getD i false) := by
 by_cases hi : i < p.length
 ·have h1 : p[i]? = some p[i] := List.getElem?_eq_getElem hi
  have h2 : q[i]? = some (q[i]'(by omega)) := List.getElem?_eq_getElem (by omega)
  rw [List.getD_eq_getElem?_getD, List.getD_eq_getElem?_getD, List.getD_eq_getElem?_getD, jn_get h1 h2, h1, h2]
  rfl
 ·rw [List.getD_eq_getElem?_getD, List.getD_eq_getElem?_getD, List.getD_eq_getElem?_getD, List.getElem?_eq_none (by rw [jn_len h]; omega), List.getElem?_eq_none (by omega), List.getElem?_eq_none (by omega)]
  rfl
theorem msk_jn {t c : Int} {p q : List Bool} (hp : mskE t c p = 0) (h : q.length = p.length) : mskE t c (jn p q) = 0 := by
 unfold mskE at hp ⊢
 rw [jn_len h]
 exact hp
theorem drpE_jn {l : List Vr} {t c : Int} {p q : List Bool} (hp : mskE t c p = 0) (h : q.length = p.length) : drpE l t c (jn p q) = drpE l t c p := by
 unfold drpE
 rw [hp, msk_jn hp h]
theorem drpE_two {l : List Vr} {t c : Int} {p : List Bool} (hl : chkE l = 0) (hp : mskE t c p = 0) : drpE l t c p = 0 ∨ drpE l t c p = 2 := by
 unfold drpE
 rw [if_neg (by rw [hl]; simp), if_neg (by rw [hp]; simp)]
 split
 ·exact .inr rfl
 ·exact .inl rfl
structure Dr (s a b : Vr) : Prop where
 a1 : a.t = s.t ∧ a.c = s.c ∧ a.i = s.i ∧ a.j = s.j ∧ a.re = s.re ∧ a.im = s.im ∧ a.dn = s.dn
 b1 : b.t = s.t ∧ b.c = s.c ∧ b.i = s.i ∧ b.j = s.j ∧ b.re = s.re ∧ b.im = s.im ∧ b.dn = s.dn
 n : (a.n = 0 ∧ b.n = 0) ∨ (a.n = s.n ∧ b.n = 0) ∨ (a.n = s.n ∧ b.n = s.n)
theorem drp_pair {c : Int} {p q : List Bool} (h : q.length = p.length) (s : Vr) : Dr s (drpR c p s) (drpR c (jn p q) s) := by
 unfold drpR
 rw [jn_getD h]
 cases p.getD (s.t * c + s.c).toNat false <;> cases q.getD (s.t * c + s.c).toNat false
 all_goals exact ⟨⟨rfl, rfl, rfl, rfl, rfl, rfl, rfl⟩, ⟨rfl, rfl, rfl, rfl, rfl, rfl, rfl⟩, by simp⟩
theorem drpL_ok {l : List Vr} {t c : Int} {p : List Bool} (h : drpE l t c p = 0) : drpL l t c p = l.map (drpR c p) := by unfold drpL; rw [if_pos h]
theorem drpL_no {l : List Vr} {t c : Int} {p : List Bool} (h : drpE l t c p ≠ 0) : drpL l t c p = [] := by unfold drpL; rw [if_neg h]
theorem drp_rows {l : List Vr} {t c : Int} {p q : List Bool} (h : q.length = p.length) (hp : mskE t c p = 0) (h0 : drpE l t c p = 0) :
  (drpL l t c p).length = l.length ∧ (drpL l t c (jn p q)).length = l.length ∧ ∀ k, k < l.length → Dr (rowAt l k) (rowAt (drpL l t c p) k) (rowAt (drpL l t c (jn p q)) k) := by
 rw [drpL_ok h0, drpL_ok (by rw [drpE_jn hp h]; exact h0)]
 refine ⟨by simp, by simp, fun k hk => ?_⟩
 rw [rowAt_lt hk, rowAt_lt (show k < (l.map (drpR c p)).length by simpa using hk), rowAt_lt (show k < (l.map (drpR c (jn p q))).length by simpa using hk), List.getElem_map, List.getElem_map]
 exact drp_pair h _
theorem put_ok {l : List Vr} {r : Vr} (hl : chkE l = 0) (h : putE l r = 0) : rowB r = true ∧ (∀ x ∈ l, vkey x ≠ vkey r) ∧ l.length < 200 ∧ putL l r = l.takeWhile (fun x => decide (vkey x < vkey r)) ++ r :: l.dropWhile (fun x => decide (vkey x < vkey r)) := by
 have hn := (chkE_good hl).2
 refine ⟨?_, ?_, ?_, by unfold putL; rw [if_pos h]⟩
 all_goals
  unfold putE at h
  rw [if_neg (by rw [hl]; simp)] at h
  split at h
  ·cases h
  rename_i h1
  split at h
  ·cases h
  rename_i h2
  split at h
  ·cases h
  rename_i h3
 ·simpa using h1
 ·intro x hx e
  exact h2 (List.any_eq_true.2 ⟨x, hx, by simpa using e⟩)
 ·omega
theorem put_len {l : List Vr} {r : Vr} (hl : chkE l = 0) (h : putE l r = 0) : (putL l r).length = l.length + 1 := by
 obtain ⟨-, -, -, e⟩ := put_ok hl h
 have := congrArg List.length (List.takeWhile_append_dropWhile (p := fun x => decide (vkey x < vkey r)) (l := l))
 rw [List.length_append] at this
 rw [e, List.length_append, List.length_cons]
 omega
theorem put_no {l : List Vr} {r : Vr} (h : putE l r ≠ 0) : putL l r = [] := by unfold putL; rw [if_neg h]
theorem put_good {l : List Vr} {r : Vr} (hl : chkE l = 0) (h : putE l r = 0) : chkE (putL l r) = 0 ∧ r ∈ putL l r := by
 obtain ⟨h1, h2, h3, e⟩ := put_ok hl h
 have hlen := put_len hl h
 have hg := (chkE_good hl).1
 have hs := goodF_srt hg
 have hr := goodF_row hg
 have ht : ∀ x ∈ l.takeWhile (fun x => decide (vkey x < vkey r)), vkey x < vkey r := fun x hx => by simpa using tw_mem hx
 have hd : ∀ x ∈ l.dropWhile (fun x => decide (vkey x < vkey r)), vkey r < vkey x := by
  have : ∀ {m : List Vr}, (m.Pairwise fun a b => vkey a < vkey b) → (∀ x ∈ m, vkey x ≠ vkey r) → ∀ x ∈ m.dropWhile (fun x => decide (vkey x < vkey r)), vkey r < vkey x := by
   intro m
   induction m with
   | nil => simp
   | cons y m ih =>
    intro hp hne x hx
    obtain ⟨hy, hm⟩ := List.pairwise_cons.1 hp
    have hyr := hne y (List.mem_cons_self ..)
    by_cases c : vkey y < vkey r
    ·rw [List.dropWhile_cons_of_pos (by simpa using c)] at hx
     exact ih hm (fun z hz => hne z (List.mem_cons_of_mem _ hz)) x hx
    ·rw [List.dropWhile_cons_of_neg (by simpa using c)] at hx
     rcases List.mem_cons.1 hx with rfl | hx
     ·omega
     ·have := hy x hx; omega
  exact this hs h2
 have hsub : ∀ x, x ∈ l.takeWhile (fun x => decide (vkey x < vkey r)) ∨ x ∈ l.dropWhile (fun x => decide (vkey x < vkey r)) → x ∈ l := fun x hx => by
  have e9 := List.takeWhile_append_dropWhile (p := fun x => decide (vkey x < vkey r)) (l := l)
  rw [← e9]
  exact List.mem_append.2 hx
 have hs2 := hs
 rw [← List.takeWhile_append_dropWhile (p := fun x => decide (vkey x < vkey r)) (l := l)] at hs2
 obtain ⟨p1, p2, -⟩ := List.pairwise_append.1 hs2
 rw [e] at hlen ⊢
 generalize l.takeWhile (fun x => decide (vkey x < vkey r)) = P at *
 generalize l.dropWhile (fun x => decide (vkey x < vkey r)) = Q at *
 refine ⟨chk_zero (good_of (fun x hx => ?_) (List.pairwise_append.2 ⟨p1, List.pairwise_cons.2 ⟨hd, p2⟩, fun x hx y hy => ?_⟩)) (by omega), by simp⟩
 ·rcases List.mem_append.1 hx with hx | hx
  ·exact hr x (hsub x (.inl hx))
  ·rcases List.mem_cons.1 hx with rfl | hx
   ·exact h1
   ·exact hr x (hsub x (.inr hx))
 ·have := ht x hx
  rcases List.mem_cons.1 hy with rfl | hy
  ·exact this
  ·have := hd y hy; omega
theorem put_sel {l : List Vr} {r : Vr} (hl : chkE l = 0) (h : putE l r = 0) : selE (putL l r) r.i r.j = 0 ∧ (∃ k, k < (selL (putL l r) r.i r.j).length ∧ rowAt (selL (putL l r) r.i r.j) k = r) ∧ (selL (putL l r) r.i r.j).length ≤ l.length + 1 := by
 obtain ⟨h1, -⟩ := put_ok hl h
 obtain ⟨g1, g2⟩ := put_good hl h
 have f := rowB_facts h1
 have e : selE (putL l r) r.i r.j = 0 := by unfold selE; rw [if_neg (by rw [g1]; simp), if_neg (by omega)]
 have e2 : selL (putL l r) r.i r.j = (putL l r).filter (selB r.i r.j) := by unfold selL; rw [if_pos e]
 refine ⟨e, ?_, ?_⟩
 ·rw [e2]
  obtain ⟨k, hk, hx⟩ := List.mem_iff_getElem.1 (List.mem_filter.2 ⟨g2, (by simp [selB] : selB r.i r.j r = true)⟩)
  exact ⟨k, hk, by rw [rowAt_lt hk]; exact hx⟩
 ·rw [e2, ← put_len hl h]
  exact List.length_filter_le _ _
end
section
open Go.ChangeShapes Go.WideShapes Go.ChangeAt Go.RowKit
attribute [local go_sem ↓] Go.wp_at_zero Go.wp_at_succ
theorem OG.hr {B : Nat} {W : World} {v : Value} {l : List Vr} (h : OV B W v l) : HR W v l := ⟨by obtain ⟨A, c, h1, h2, h3, h4, h5⟩ := h.form; exact ⟨A, c, h1, h2, h3, h4, h5⟩⟩
theorem sel_of {W : World} {v : Value} {l : List Vr} (h : HR W v l) (i j : Int) : Calls Tryz.prog 18 #[v, .int .i64 i, .int .i64 j] W fun e w' => ∃ u, e = .returned (.tuple #[u, .int .i64 (selE l i j)]) ∧ HR w' u (selL l i j) ∧ Below W.heap.size W w' := by
 obtain ⟨A, c, rfl, h2, h3, h4, h5⟩ := h.ex
 exact (select_calls i j h4 h5 h2 h3).mono fun e w' ⟨u, he, ho, hb⟩ => ⟨u, he, OR.hr ho, hb⟩
end
section
open Go Go.RowKit
section
variable {P : Program} {ops : Array Oper} {Q : Exit → Act → World → Prop} {md : Region.Mode} {S : Nat → World → Prop}
def readyB (md : Region.Mode) (ops : Array Oper) (done : Array Bool) (i : Nat) : Bool := !(done.getD i true) && match ops[i]? with
 | some o => o.after.all fun e => !(Region.binds md e) || done.getD e.on false
 | none => false
theorem readyB_mem {done : Array Bool} {i : Nat} (h : readyB md ops done i = true) : i ∈ Region.ready md ops done := by
 unfold readyB at h
 rw [Bool.and_eq_true, Bool.not_eq_true'] at h
 obtain ⟨h1, h2⟩ := h
 rw [mem_ready]
 refine ⟨h1, ?_⟩
 cases ho : ops[i]? with
 | none => rw [ho] at h2; cases h2
 | some o =>
  rw [ho] at h2
  refine ⟨o, rfl, fun e he hb => ?_⟩
  simp only [Array.all_eq_true_iff_forall_mem] at h2
  have := h2 e he
  rw [hb] at this
  simpa using this
def edgeB (md : Region.Mode) (o : Oper) (i : Nat) : Bool := o.after.any fun e => Region.binds md e && e.on == i
def freeAll (md : Region.Mode) (ops : Array Oper) : Bool := (List.range ops.size).all fun i => match ops[i]? with
 | none => true
 | some oi => (List.range ops.size).all fun j => match ops[j]? with
  | none => true
  | some oj => j == i || (oi.apart ops oj || (edgeB md oj i || edgeB md oi j))
theorem edge_no {o : Oper} {i : Nat} (h : ∀ e ∈ o.after, Region.binds md e = true → e.on ≠ i) : edgeB md o i = false := by
 unfold edgeB
 rw [Bool.eq_false_iff]
 intro ha
 obtain ⟨k, hk, hb⟩ := Array.any_eq_true.1 ha
 rw [Bool.and_eq_true, beq_iff_eq] at hb
 exact h _ (Array.getElem_mem hk) hb.1 hb.2
structure HCtx (md : Region.Mode) (ops : Array Oper) (done : Array Bool) : Prop where
 ns : Region.noSelect ops = true
 fa : freeAll md ops = true
 sh : Shutd md ops done
theorem HCtx.free {done : Array Bool} (h : HCtx md ops done) {i : Nat} {oi : Oper} (hi : ops[i]? = some oi) (hr : i ∈ Region.ready md ops done) (j : Nat) (oj : Oper) (hj : ops[j]? = some oj) (hne : j ≠ i) (hun : done.getD j true = false) (hno : ∀ e ∈ oj.after, Region.binds md e = true → e.on ≠ i) : oi.apart ops oj = true := by
 have h1 := h.fa
 unfold freeAll at h1
 have h2 := List.all_eq_true.1 h1 i (List.mem_range.2 (Array.getElem?_eq_some_iff.1 hi).1)
 rw [hi] at h2
 have h3 := List.all_eq_true.1 h2 j (List.mem_range.2 (Array.getElem?_eq_some_iff.1 hj).1)
 rw [hj] at h3
 simp only [edge_no hno, Bool.false_or, Bool.or_eq_true, beq_iff_eq, hne, false_or] at h3
 rcases h3 with h3 | h3
 ·exact h3
 ·exfalso
  obtain ⟨_, o', ho', hall⟩ := mem_ready.1 hr
  have : o' = oi := Option.some.inj (ho'.symm.trans hi)
  subst this
  rw [edge_no (fun e he hb hon => by
   have := hall e he hb
   rw [hon] at this
   have h9 := getD_both hun
   rw [this] at h9; cases h9)] at h3
  cases h3
theorem HCtx.set {done : Array Bool} (h : HCtx md ops done) {i : Nat} (hr : i ∈ Region.ready md ops done) : HCtx md ops (done.setIfInBounds i true) := ⟨h.ns, h.fa, shut_set h.sh hr⟩
theorem take_H {oi : Oper} {f : Nat} {done : Array Bool} {a : Act} {w : World} (i : Nat) (v : Value) (d : Option Nat) (hg : ∀ k w X, S k w → Below w.heap.size w X → S k X) (hc : HCtx md ops done) (hi : ops[i]? = some oi)
  (hr : readyB md ops done i = true) (hd : oi.dst = d) (hQ : ∀ c a w, Q (.panic c) (a.put oi.dst v) w → Q (.panic c) a w) (hy : YieldsG P ops (S i) oi v a) (hS : S i w)
  (h : HCtx md ops (done.setIfInBounds i true) → wpAnyG P md ops Q S f (done.setIfInBounds i true) (a.put d v) w) : wpAnyG P md ops Q S (f + 1) done a w :=
 wpAnyG_first hi (Region.noSelect_spec hc.ns) hQ hg f done a w hc.sh (hc.free hi (readyB_mem hr)) (readyB_mem hr) hy hS (by rw [hd]; exact h (hc.set (readyB_mem hr)))
theorem shut_start (n : Nat) : Shutd md ops (Array.replicate n false) := fun m om _ hm => by
 rw [Array.getD_eq_getD_getElem?, Array.getElem?_replicate] at hm
 split at hm <;> cases hm
theorem region_H {id : Nat} {a : Act} {w : World} (hm : P.follows .mixedOrders = true) (hns : Region.noSelect ops = true) (hfa : freeAll .any ops = true)
  (h : HCtx .any ops (Array.replicate ops.size false) → wpAnyG P .any ops Q S ops.size (Array.replicate ops.size false) a w.drew) : (Code.region id ops true).wp P Q a w :=
 region_G hm (h ⟨hns, hfa, shut_start _⟩)
end
end
end Go.Proofs.YtbbnkclajpaghaaGreatDoor
