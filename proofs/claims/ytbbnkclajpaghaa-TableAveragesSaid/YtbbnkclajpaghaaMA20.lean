/- Several texts in one. -/
import Derived.Test.YtbbnkclajpaghaaMA18
import Derived.Test.YtbbnkclajpaghaaMA19
namespace Go.Proofs.Ytbbnkclajpaghaa
open Go.ChangeShapes Go.WideShapes Go.ChangeAt Go.RowKit
set_option linter.unusedVariables false
set_option linter.unusedSimpArgs false
attribute [local go_sem ↓] Go.wp_at_zero Go.wp_at_succ
theorem OG.kept {α : Type} {T : TypeId} {sz : Nat} {f : α → List Value} {B : Nat} {w w' : World} {v : Value} {l : List α} {row : Option Nat} (h : OG T sz f B w v l) (hg : w.grownBy w' row) (hne : ∀ g cs, v.ownBlock = some g → w.heap[g]? = some (.cells cs T) → row ≠ some g) : OG T sz f B w' v l := by
 refine ⟨h.1, ?_⟩
 rcases h.2 with h2 | ⟨g, cap, cur, h1, h2, h3, h4⟩
 ·exact .inl h2
 ·exact .inr ⟨g, cap, cur, h1, h2, (hg.block g (blk_lt h3) (fun e => hne g cur (by rw [h1]; rfl) h3 e.symm)).trans h3, h4⟩
theorem OG.own {α : Type} {T : TypeId} {sz : Nat} {f : α → List Value} {B : Nat} {w : World} {v : Value} {l : List α} (h : OG T sz f B w v l) {g : Nat} (e : v.ownBlock = some g) : B ≤ g ∧ ∃ cs, w.heap[g]? = some (.cells cs T) := by
 rcases h.2 with ⟨h1, -⟩ | ⟨g', cap, cur, h1, h2, h3, h4⟩
 ·rw [h1] at e; cases e
 ·rw [h1] at e; injection e with e; subst e; exact ⟨h2, cur, h3⟩
theorem step_gapp {α : Type} {T S : TypeId} {sz : Nat} {f : α → List Value} (ty : Ty T S sz f) {ops : Array Oper} {o : Oper} {a : Act} {w : World} {K : Act → World → Prop} {Q : Exit → Act → World → Prop} {E : Prop}
  (hg : o.guard = none) (s x : Operand) (hop : o.op = Op.call { callee := Callee.builtin Builtin.append, args := #[s, x], argTypes := #[S, S] })
  (B : Nat) (v : Value) (l : List α) (hs : a.eval s = v) (A : Option Addr) (m c : Nat) (l2 : List α) (hx : a.eval x = .slice A m c)
  (hown : OG T sz f B w v l) (hm : l2.length = m) (hr : Rd w sz A l2.length (l2.flatMap f)) (hb : l.length + m ≤ 100000) (hB : B ≤ w.heap.size)
  (hK : ∀ v' w', OG T sz f B w' v' (l ++ l2) → w.grownBy w' v.ownBlock → (v'.ownBlock = v.ownBlock ∨ v'.ownBlock = some w.heap.size) → K (a.put o.dst v') w') : if Region.wanted o (yielded ops a.tmps) = true then Oper.wp Try.prog o a w K Q else E := by
 subst hm
 obtain ⟨z, bytes, hz, hzs, hby⟩ := ty.z
 obtain ⟨i, hi, hzi, hsz, hbi⟩ := info_parts hz
 have hbb : (l.length + l2.length) * bytes ≤ 100000 * 1000 := Nat.mul_le_mul hb hby
 refine step_append_rd w hg s x S hop B T i z sz bytes ty.und hi hzi hsz hbi hzs ty.pos v l.length (l.flatMap f) hs hown A l2.length c (l2.flatMap f) hx hr (ty.one l2) (by simp [maxLen]; omega) (by omega) hB ?_
 intro v' w' r1 r2 r3
 exact hK v' w' (by unfold OG; rw [List.length_append, List.flatMap_append]; exact r1) r2 r3
theorem rd_own1 {α : Type} {f : α → List Value} {sz b : Nat} {W : World} {cs : Array Value} {T : TypeId} {r : α} (h : W.heap[b]? = some (.cells cs T)) (hf : f r = cs.toList) (hs : (f r).length = sz) : Rd W sz (some ⟨b, 0, none⟩) [r].length ([r].flatMap f) := by
 refine ⟨by simp [hs], fun _ => ⟨b, 0, rfl, blk_lt h, fun j u hu => blk_cell h (0 + j) u ?_⟩⟩
 rw [List.flatMap_cons, List.flatMap_nil, List.append_nil, hf] at hu
 simpa using hu
theorem GK.grown {L : List (Nat × Nat × Obj)} {k : Nat} {X Y : World} {row : Option Nat} (h : GK L k X) (hg : X.grownBy Y row) (hn : ∀ p ∈ L, some p.2.1 ≠ row) : GK L k Y := fun p hp e => (hg.block p.2.1 (blk_lt (h p hp e)) (hn p hp)).trans (h p hp e)
structure MnS (w : World) (l : List Vr) (k1 k2 k3 : Nat) (v1 v2 v3 : Value) (W : World) : Prop where
 o1 : OF false (w.heap.size + 1) W v1 (l.take k1)
 o2 : OF true (w.heap.size + 1) W v2 (l.take k2)
 o3 : ON (w.heap.size + 1) W v3 (l.take k3)
 ne : ∀ g, v1.ownBlock = some g → v2.ownBlock ≠ some g
 bl : Below w.heap.size w W
 z : W.heap[w.heap.size]? = some (.cells #[.int .i64 0, .int .i64 0, .int .i64 0, .int .i64 0, .int .i64 0, .int .i64 0] 26)
section
variable {w X Y : World} {l : List Vr} {k1 k2 k3 : Nat} {v1 v2 v3 v9 : Value}
theorem MnS.next (h : MnS w l k1 k2 k3 v1 v2 v3 X) (hb : Below X.heap.size X Y) : MnS w l k1 k2 k3 v1 v2 v3 Y := ⟨h.o1.next hb, h.o2.next hb, h.o3.next hb, h.ne, Bgo h.bl hb, blk_next hb h.z⟩
theorem MnS.sz (h : MnS w l k1 k2 k3 v1 v2 v3 X) : w.heap.size + 1 ≤ X.heap.size := blk_lt h.z
theorem MnS.far (h : MnS w l k1 k2 k3 v1 v2 v3 X) {b : Nat} (hb : b < w.heap.size) : some b ≠ v1.ownBlock ∧ some b ≠ v2.ownBlock ∧ some b ≠ v3.ownBlock :=
 ⟨fun e => by have := (h.o1.own e.symm).1; omega, fun e => by have := (h.o2.own e.symm).1; omega, fun e => by have := (h.o3.own e.symm).1; omega⟩
theorem MnS.grown {row : Option Nat} (h : MnS w l k1 k2 k3 v1 v2 v3 X) (hg : X.grownBy Y row) (hr : ∀ g, row = some g → w.heap.size + 1 ≤ g) : Below w.heap.size w Y ∧ Y.heap[w.heap.size]? = some (.cells #[.int .i64 0, .int .i64 0, .int .i64 0, .int .i64 0, .int .i64 0, .int .i64 0] 26) :=
 ⟨h.bl.trans ((Below.refl w.heap.size X).grown hg h.bl.size (fun k e => by have := hr k e; omega)), (hg.block _ (blk_lt h.z) (fun e => by have := hr _ e.symm; omega)).trans h.z⟩
theorem MnS.app1 (h : MnS w l k1 k2 k3 v1 v2 v3 X) (hk : k1 < l.length) (o9 : OF false (w.heap.size + 1) Y v9 (l.take k1 ++ [rowAt l k1])) (g9 : X.grownBy Y v1.ownBlock) (t9 : v9.ownBlock = v1.ownBlock ∨ v9.ownBlock = some X.heap.size) : MnS w l (k1 + 1) k2 k3 v9 v2 v3 Y := by
 obtain ⟨b, z⟩ := h.grown g9 fun g e => (h.o1.own e).1
 refine ⟨by rw [List.take_succ_eq_append_getElem hk, ← rowAt_lt hk]; exact o9, h.o2.kept g9 fun g cs e _ e' => h.ne g e' e, h.o3.kept g9 fun g cs e hc e' => ?_, fun g e e' => ?_, b, z⟩
 ·obtain ⟨-, cs', hc'⟩ := h.o1.own e'
  rw [hc] at hc'; injection hc' with hc'; injection hc' with _ hc' _; exact absurd hc' (by decide)
 ·rcases t9 with t9 | t9
  ·exact h.ne g (by rw [← t9]; exact e) e'
  ·rw [t9] at e; injection e with e; subst e
   obtain ⟨-, cs', hc'⟩ := h.o2.own e'
   have := blk_lt hc'; omega
theorem MnS.app2 (h : MnS w l k1 k2 k3 v1 v2 v3 X) (hk : k2 < l.length) (o9 : OF true (w.heap.size + 1) Y v9 (l.take k2 ++ [rowAt l k2])) (g9 : X.grownBy Y v2.ownBlock) (t9 : v9.ownBlock = v2.ownBlock ∨ v9.ownBlock = some X.heap.size) : MnS w l k1 (k2 + 1) k3 v1 v9 v3 Y := by
 obtain ⟨b, z⟩ := h.grown g9 fun g e => (h.o2.own e).1
 refine ⟨h.o1.kept g9 fun g cs e _ e' => h.ne g e e', by rw [List.take_succ_eq_append_getElem hk, ← rowAt_lt hk]; exact o9, h.o3.kept g9 fun g cs e hc e' => ?_, fun g e e' => ?_, b, z⟩
 ·obtain ⟨-, cs', hc'⟩ := h.o2.own e'
  rw [hc] at hc'; injection hc' with hc'; injection hc' with _ hc' _; exact absurd hc' (by decide)
 ·rcases t9 with t9 | t9
  ·exact h.ne g e (by rw [← t9]; exact e')
  ·rw [t9] at e'; injection e' with e'; subst e'
   obtain ⟨-, cs', hc'⟩ := h.o1.own e
   have := blk_lt hc'; omega
theorem MnS.app3 (h : MnS w l k1 k2 k3 v1 v2 v3 X) (hk : k3 < l.length) (o9 : ON (w.heap.size + 1) Y v9 (l.take k3 ++ [rowAt l k3])) (g9 : X.grownBy Y v3.ownBlock) : MnS w l k1 k2 (k3 + 1) v1 v2 v9 Y := by
 obtain ⟨b, z⟩ := h.grown g9 fun g e => (h.o3.own e).1
 refine ⟨h.o1.kept g9 fun g cs e hc e' => ?_, h.o2.kept g9 fun g cs e hc e' => ?_, by rw [List.take_succ_eq_append_getElem hk, ← rowAt_lt hk]; exact o9, h.ne, b, z⟩
 all_goals
  obtain ⟨-, cs', hc'⟩ := h.o3.own e'
  rw [hc] at hc'; injection hc' with hc'; injection hc' with _ hc' _; exact absurd hc' (by decide)
end
theorem OG.all {α : Type} {T : TypeId} {sz : Nat} {f : α → List Value} {B : Nat} {w : World} {A : Option Addr} {c : Nat} {l : List α} (h : OG T sz f B w (.slice A l.length c) l) : l.length ≤ c ∧ c ≤ 9223372036854775807 ∧ Rd w sz A l.length (l.flatMap f) := by
 obtain ⟨A', c', e, h1, h2, h3, -⟩ := h.form
 injection e with e1 _ e2
 subst e1 e2
 exact ⟨h1, h2, h3⟩
theorem two_get {a b : Value} {l : List Value} {j : Nat} {u : Value} (h : [a, b][j]? = some u) : (a :: b :: l)[j]? = some u := by
 rcases j with _ | _ | j
 ·exact h
 ·exact h
 ·simp at h
theorem real_parts {r : Vr} (h : rowB r = true) : ∃ a b c d : Int, frp false r = [.int .i64 a, .int .i64 b] ∧ frp true r = [.int .i64 c, .int .i64 d] ∧ (∀ W : World, Calls Try.prog 41 #[Cv r] W fun e w' => e = .returned (.agg #[.int .i64 a, .int .i64 b]) ∧ Below W.heap.size W w') ∧
  ∀ W : World, Calls Try.prog 42 #[Cv r] W fun e w' => e = .returned (.agg #[.int .i64 c, .int .i64 d]) ∧ Below W.heap.size W w' :=
 ⟨_, _, _, _, rfl, rfl, fun W => real_calls h W, fun W => imag_calls h W⟩
set_option maxRecDepth 100000 in
set_option maxHeartbeats 16000000 in
theorem rmean_calls {A : Option Addr} {c : Nat} {l : List Vr} {w : World} (hl : OS6 0 w (.slice A l.length c) l) (hn : l.length ≤ 200) (hv : ∀ r ∈ l, rowB r = true) (hb : ∀ r ∈ l, r.i = (hdV l).i ∧ r.j = (hdV l).j) (hw : wgt l ≠ 0) :
  Calls Try.prog 30 #[.slice A l.length c] w fun e w' => e = .returned (MnV (meanF l)) ∧ Below w.heap.size w w' := by
 have NN := Lib.hid (Below.refl w.heap.size w)
 have h0 : 0 < l.length := Nat.pos_of_ne_zero fun e => hw (by rw [List.eq_nil_of_length_eq_zero e]; rfl)
 obtain ⟨hc, hc', hrd⟩ := hl.all
 have HL := Lib.hid hl
 have HV := Lib.hid hv
 have HVV : Hid (∀ r ∈ l, visB r = true) := Lib.hid fun r h => row_vis (hv r h)
 have HBS := Lib.hid hb
 have CL := Lib.hid (fun W (h : RV6 W A l) => rlisted_calls h hc hc' hn HVV.out)
 have CW := Lib.hid (fun W (h : RV6 W A l) => rweight_calls h hc hc' hn HVV.out)
 have HRD : Hid (RV6 w A l) := Lib.hid hrd
 have HWB := Lib.hid (wgt_bd HVV.out)
 have MF : Hid (meanF l = if wgt l = 0 then (18, zV) else if (avgR false l).2.2 ≠ 0 then ((avgR false l).2.2, zV) else if (avgR true l).2.2 ≠ 0 then ((avgR true l).2.2, zV) else match valO (avgR false l).1 (avgR false l).2.1 (avgR true l).1 (avgR true l).2.1 with | none => (16, zV) | some (a, b, D) => if 1000000 < wgt l then (16, zV) else (0, ⟨(hdV l).t, (hdV l).c, (hdV l).i, (hdV l).j, a, b, D, wgt l⟩)) := Lib.hid rfl
 have V1 := Lib.hid (fun n d e (h : avgR false l = (n, d, e)) => avgR_val false HVV.out (by omega) hw h)
 have V2 := Lib.hid (fun n d e (h : avgR true l = (n, d, e)) => avgR_val true HVV.out (by omega) hw h)
 have CA := Lib.hid (fun (b : Bool) (W : World) (A1 A2 : Option Addr) (c1 c2 : Nat) (h1 : OF b 0 W (.slice A1 l.length c1) l) (h2 : ON 0 W (.slice A2 l.length c2) l) => ravg_calls b h1 h2 hn HVV.out)
 rw [if_neg hw] at MF
 generalize meanF l = R at *
 obtain ⟨xn, xd, xe, hx⟩ : ∃ n d e, avgR false l = (n, d, e) := ⟨_, _, _, rfl⟩
 obtain ⟨yn, yd, ye, hy⟩ : ∃ n d e, avgR true l = (n, d, e) := ⟨_, _, _, rfl⟩
 replace V1 := Lib.hid (V1.out _ _ _ hx)
 replace V2 := Lib.hid (V2.out _ _ _ hy)
 have CA1 := Lib.hid (CA.out false)
 have CA2 := Lib.hid (CA.out true)
 rw [hx] at MF CA1
 rw [hy] at MF CA2
 simp only at MF
 clear hl hv hb hrd hx hy CA
 generalize wgt l = N at *
 go_enter Try.func30, Try.ntmps30
 go_upto_region 1 with fail
 have Z : Hid ((w.alloc (.cells #[.int .i64 0, .int .i64 0, .int .i64 0, .int .i64 0, .int .i64 0, .int .i64 0] 26)).heap[w.heap.size]? = some (.cells #[.int .i64 0, .int .i64 0, .int .i64 0, .int .i64 0, .int .i64 0, .int .i64 0] 26)) := Lib.hid (blk_new w _)
 replace NN : Hid (Below w.heap.size w (w.alloc (.cells #[.int .i64 0, .int .i64 0, .int .i64 0, .int .i64 0, .int .i64 0, .int .i64 0] 26))) := Lib.hid (Bal NN.out _)
 generalize (w.alloc (.cells #[.int .i64 0, .int .i64 0, .int .i64 0, .int .i64 0, .int .i64 0, .int .i64 0] 26)) = W1 at *
 go_wp2_with fail
 refine (CL.out _ (Rd.next NN.out HRD.out)).mono ?_
 rintro e w2 ⟨rfl, hb⟩
 replace NN := Lib.hid (Bgo NN.out hb)
 replace Z := Lib.hid (blk_next hb Z.out)
 clear hb
 have dL : ((l.length : Int) == 0) = false := by rw [beq_eq_false_iff_ne]; omega
 go_wp2_with fail
 clear dL CL
 go_loopw [4, 5, 6, 7] (fun v1 v2 v3 p wr => ∃ (k : Nat) (z1 z2 z3 : Value), k ≤ l.length ∧ p = .int .i64 k ∧ z1 = v1 ∧ z2 = v2 ∧ z3 = v3 ∧ Hid (MnS w l k k k z1 z2 z3 wr)) (fun _ _ _ p _ => l.length - (intOf p).toNat)
 case atStart => exact ⟨0, _, _, _, Nat.zero_le _, rfl, rfl, rfl, rfl, Lib.hid ⟨OG.nil _ _ _ _ _, OG.nil _ _ _ _ _, OG.nil _ _ _ _ _, fun g e => (by cases e), NN.out, Z.out⟩⟩
 case round =>
  clear NN Z
  obtain ⟨k, v1, v2, v3, hk, rfl, rfl, rfl, rfl, MS⟩ := hrel
  have NN := Lib.hid MS.out.bl
  by_cases hlt : l.length ≤ k
  ·have e : k = l.length := by omega
   subst e
   clear hk hlt HBS
   have O1 := Lib.hid MS.out.o1
   have O2 := Lib.hid MS.out.o2
   have O3 := Lib.hid MS.out.o3
   have Z := Lib.hid MS.out.z
   clear MS
   rw [List.take_length] at O1 O2 O3
   obtain ⟨A1, c1, rfl, -⟩ := O1.out.form
   obtain ⟨A2, c2, rfl, -⟩ := O2.out.form
   obtain ⟨A3, c3, rfl, -⟩ := O3.out.form
   have qN : (N == 0) = false := by rw [beq_eq_false_iff_ne]; exact hw
   go_wp2_with fail
   refine (CW.out _ (Rd.next NN.out HRD.out)).mono ?_
   rintro e w3 ⟨rfl, hb⟩
   replace NN := Lib.hid (Bgo NN.out hb)
   replace O1 := Lib.hid (OG.next O1.out hb)
   replace O2 := Lib.hid (OG.next O2.out hb)
   replace O3 := Lib.hid (OG.next O3.out hb)
   replace Z := Lib.hid (blk_next hb Z.out)
   clear hb
   go_wp2_with fail
   refine (CA1.out _ _ _ _ _ (O1.out.mono (Nat.zero_le _)) (O3.out.mono (Nat.zero_le _))).mono ?_
   rintro e w4 ⟨rfl, hb⟩
   replace NN := Lib.hid (Bgo NN.out hb)
   replace O1 := Lib.hid (OG.next O1.out hb)
   replace O2 := Lib.hid (OG.next O2.out hb)
   replace O3 := Lib.hid (OG.next O3.out hb)
   replace Z := Lib.hid (blk_next hb Z.out)
   clear hb
   go_upto_region 16 with fail
   clear O1
   have HB := Lib.hid (show Below w4.heap.size w4 (w4.alloc (.cells #[.int .i64 xn, .int .i64 xd] 80)) from (Bal (Below.refl _ _) _))
   have X : Hid ((w4.alloc (.cells #[.int .i64 xn, .int .i64 xd] 80)).heap[w4.heap.size]? = some (.cells #[.int .i64 xn, .int .i64 xd] 80)) := Lib.hid (blk_new w4 _)
   have LT_X : Hid (w.heap.size < w4.heap.size ∧ w.heap.size ≤ w4.heap.size) := Lib.hid ⟨blk_lt Z.out, NN.out.size⟩
   replace NN := Lib.hid (Bgo NN.out HB.out)
   replace O2 := Lib.hid (OG.next O2.out HB.out)
   replace O3 := Lib.hid (OG.next O3.out HB.out)
   replace Z := Lib.hid (blk_next HB.out Z.out)
   clear HB
   generalize (w4.alloc (.cells #[.int .i64 xn, .int .i64 xd] 80)) = W5 at *
   generalize w4.heap.size = gX at *
   by_cases hx0 : xe = 0
   rotate_left
   ·clear O2 O3
    have R0 : Hid (R = (xe, zV)) := Lib.hid (by rw [MF.out, if_pos hx0])
    have qx : (xe != 0) = true := by simpa using hx0
    clear MF V1 V2
    have c_Z_0 := blk_cell Z.out 0 _ rfl
    have f_Z_0 := blk_frozen Z.out 0
    have c_Z_1 := blk_cell Z.out 1 _ rfl
    have f_Z_1 := blk_frozen Z.out 1
    have c_Z_2 := blk_cell Z.out 2 _ rfl
    have f_Z_2 := blk_frozen Z.out 2
    have c_Z_3 := blk_cell Z.out 3 _ rfl
    have f_Z_3 := blk_frozen Z.out 3
    have c_Z_4 := blk_cell Z.out 4 _ rfl
    have f_Z_4 := blk_frozen Z.out 4
    have c_Z_5 := blk_cell Z.out 5 _ rfl
    have f_Z_5 := blk_frozen Z.out 5
    have l_Z := blk_lt Z.out
    go_wp2_with fail
    clear c_Z_0 f_Z_0 c_Z_1 f_Z_1 c_Z_2 f_Z_2 c_Z_3 f_Z_3 c_Z_4 f_Z_4 c_Z_5 f_Z_5 l_Z
    replace Z : Hid (((((((W5.setCell ⟨w.heap.size, 0, none⟩ (.int .i64 0)).setCell ⟨w.heap.size, 1, none⟩ (.int .i64 0)).setCell ⟨w.heap.size, 2, none⟩ (.int .i64 0)).setCell ⟨w.heap.size, 3, none⟩ (.int .i64 0)).setCell ⟨w.heap.size, 4, none⟩ (.int .i64 0)).setCell ⟨w.heap.size, 5, none⟩ (.int .i64 0)).heap[w.heap.size]? = some (.cells #[.int .i64 0, .int .i64 0, .int .i64 0, .int .i64 0, .int .i64 0, .int .i64 0] 26)) := Lib.hid (blk_set (blk_set (blk_set (blk_set (blk_set (blk_set (Z.out) 0 (.int .i64 0)) 1 (.int .i64 0)) 2 (.int .i64 0)) 3 (.int .i64 0)) 4 (.int .i64 0)) 5 (.int .i64 0))
    replace X : Hid (((((((W5.setCell ⟨w.heap.size, 0, none⟩ (.int .i64 0)).setCell ⟨w.heap.size, 1, none⟩ (.int .i64 0)).setCell ⟨w.heap.size, 2, none⟩ (.int .i64 0)).setCell ⟨w.heap.size, 3, none⟩ (.int .i64 0)).setCell ⟨w.heap.size, 4, none⟩ (.int .i64 0)).setCell ⟨w.heap.size, 5, none⟩ (.int .i64 0)).heap[gX]? = some (.cells #[.int .i64 xn, .int .i64 xd] 80)) := Lib.hid (blk_set_other (b' := w.heap.size) (blk_set_other (b' := w.heap.size) (blk_set_other (b' := w.heap.size) (blk_set_other (b' := w.heap.size) (blk_set_other (b' := w.heap.size) (blk_set_other (b' := w.heap.size) (X.out) (by have := LT_X.out; omega) 0 (.int .i64 0)) (by have := LT_X.out; omega) 1 (.int .i64 0)) (by have := LT_X.out; omega) 2 (.int .i64 0)) (by have := LT_X.out; omega) 3 (.int .i64 0)) (by have := LT_X.out; omega) 4 (.int .i64 0)) (by have := LT_X.out; omega) 5 (.int .i64 0))
    replace NN := Lib.hid (Bset1 (Bset1 (Bset1 (Bset1 (Bset1 (Bset1 (NN.out) (show w.heap.size ≤ w.heap.size by omega) 0 (.int .i64 0)) (show w.heap.size ≤ w.heap.size by omega) 1 (.int .i64 0)) (show w.heap.size ≤ w.heap.size by omega) 2 (.int .i64 0)) (show w.heap.size ≤ w.heap.size by omega) 3 (.int .i64 0)) (show w.heap.size ≤ w.heap.size by omega) 4 (.int .i64 0)) (show w.heap.size ≤ w.heap.size by omega) 5 (.int .i64 0))
    generalize ((((((W5.setCell ⟨w.heap.size, 0, none⟩ (.int .i64 0)).setCell ⟨w.heap.size, 1, none⟩ (.int .i64 0)).setCell ⟨w.heap.size, 2, none⟩ (.int .i64 0)).setCell ⟨w.heap.size, 3, none⟩ (.int .i64 0)).setCell ⟨w.heap.size, 4, none⟩ (.int .i64 0)).setCell ⟨w.heap.size, 5, none⟩ (.int .i64 0)) = W6 at *
    have c_Z_0 := blk_cell Z.out 0 _ rfl
    have c_Z_1 := blk_cell Z.out 1 _ rfl
    have c_Z_2 := blk_cell Z.out 2 _ rfl
    have c_Z_3 := blk_cell Z.out 3 _ rfl
    have c_Z_4 := blk_cell Z.out 4 _ rfl
    have c_Z_5 := blk_cell Z.out 5 _ rfl
    have l_Z := blk_lt Z.out
    exact bodyPost_ret (v := .tuple #[.agg #[.int .i64 0, .int .i64 0, .int .i64 0, .int .i64 0, .int .i64 0, .int .i64 0], .int .i64 xe]) (by simp [results, Try.results30, go_sem, c_Z_0, c_Z_1, c_Z_2, c_Z_3, c_Z_4, c_Z_5]) rfl ⟨by rw [R0.out]; rfl, NN.out⟩
   subst hx0
   go_wp2_with fail
   refine (CA2.out _ _ _ _ _ (O2.out.mono (Nat.zero_le _)) (O3.out.mono (Nat.zero_le _))).mono ?_
   rintro e w7 ⟨rfl, hb⟩
   replace NN := Lib.hid (Bgo NN.out hb)
   replace O2 := Lib.hid (OG.next O2.out hb)
   replace O3 := Lib.hid (OG.next O3.out hb)
   replace Z := Lib.hid (blk_next hb Z.out)
   replace X := Lib.hid (blk_next hb X.out)
   clear hb
   clear O2 O3
   go_upto_region 19 with fail
   have HB := Lib.hid (show Below w7.heap.size w7 (w7.alloc (.cells #[.int .i64 yn, .int .i64 yd] 80)) from (Bal (Below.refl _ _) _))
   have Y : Hid ((w7.alloc (.cells #[.int .i64 yn, .int .i64 yd] 80)).heap[w7.heap.size]? = some (.cells #[.int .i64 yn, .int .i64 yd] 80)) := Lib.hid (blk_new w7 _)
   have LT_Y : Hid (w.heap.size < w7.heap.size ∧ gX < w7.heap.size ∧ w.heap.size ≤ w7.heap.size) := Lib.hid ⟨blk_lt Z.out, blk_lt X.out, NN.out.size⟩
   replace NN := Lib.hid (Bgo NN.out HB.out)
   replace Z := Lib.hid (blk_next HB.out Z.out)
   replace X := Lib.hid (blk_next HB.out X.out)
   clear HB
   generalize (w7.alloc (.cells #[.int .i64 yn, .int .i64 yd] 80)) = W8 at *
   generalize w7.heap.size = gY at *
   by_cases hy0 : ye = 0
   rotate_left
   ·have R0 : Hid (R = (ye, zV)) := Lib.hid (by rw [MF.out, if_neg (by simp), if_pos hy0])
    have qy : (ye != 0) = true := by simpa using hy0
    clear MF V1 V2
    have c_Z_0 := blk_cell Z.out 0 _ rfl
    have f_Z_0 := blk_frozen Z.out 0
    have c_Z_1 := blk_cell Z.out 1 _ rfl
    have f_Z_1 := blk_frozen Z.out 1
    have c_Z_2 := blk_cell Z.out 2 _ rfl
    have f_Z_2 := blk_frozen Z.out 2
    have c_Z_3 := blk_cell Z.out 3 _ rfl
    have f_Z_3 := blk_frozen Z.out 3
    have c_Z_4 := blk_cell Z.out 4 _ rfl
    have f_Z_4 := blk_frozen Z.out 4
    have c_Z_5 := blk_cell Z.out 5 _ rfl
    have f_Z_5 := blk_frozen Z.out 5
    have l_Z := blk_lt Z.out
    go_wp2_with fail
    clear c_Z_0 f_Z_0 c_Z_1 f_Z_1 c_Z_2 f_Z_2 c_Z_3 f_Z_3 c_Z_4 f_Z_4 c_Z_5 f_Z_5 l_Z
    replace Z : Hid (((((((W8.setCell ⟨w.heap.size, 0, none⟩ (.int .i64 0)).setCell ⟨w.heap.size, 1, none⟩ (.int .i64 0)).setCell ⟨w.heap.size, 2, none⟩ (.int .i64 0)).setCell ⟨w.heap.size, 3, none⟩ (.int .i64 0)).setCell ⟨w.heap.size, 4, none⟩ (.int .i64 0)).setCell ⟨w.heap.size, 5, none⟩ (.int .i64 0)).heap[w.heap.size]? = some (.cells #[.int .i64 0, .int .i64 0, .int .i64 0, .int .i64 0, .int .i64 0, .int .i64 0] 26)) := Lib.hid (blk_set (blk_set (blk_set (blk_set (blk_set (blk_set (Z.out) 0 (.int .i64 0)) 1 (.int .i64 0)) 2 (.int .i64 0)) 3 (.int .i64 0)) 4 (.int .i64 0)) 5 (.int .i64 0))
    replace X : Hid (((((((W8.setCell ⟨w.heap.size, 0, none⟩ (.int .i64 0)).setCell ⟨w.heap.size, 1, none⟩ (.int .i64 0)).setCell ⟨w.heap.size, 2, none⟩ (.int .i64 0)).setCell ⟨w.heap.size, 3, none⟩ (.int .i64 0)).setCell ⟨w.heap.size, 4, none⟩ (.int .i64 0)).setCell ⟨w.heap.size, 5, none⟩ (.int .i64 0)).heap[gX]? = some (.cells #[.int .i64 xn, .int .i64 xd] 80)) := Lib.hid (blk_set_other (b' := w.heap.size) (blk_set_other (b' := w.heap.size) (blk_set_other (b' := w.heap.size) (blk_set_other (b' := w.heap.size) (blk_set_other (b' := w.heap.size) (blk_set_other (b' := w.heap.size) (X.out) (by have := LT_X.out; omega) 0 (.int .i64 0)) (by have := LT_X.out; omega) 1 (.int .i64 0)) (by have := LT_X.out; omega) 2 (.int .i64 0)) (by have := LT_X.out; omega) 3 (.int .i64 0)) (by have := LT_X.out; omega) 4 (.int .i64 0)) (by have := LT_X.out; omega) 5 (.int .i64 0))
    replace Y : Hid (((((((W8.setCell ⟨w.heap.size, 0, none⟩ (.int .i64 0)).setCell ⟨w.heap.size, 1, none⟩ (.int .i64 0)).setCell ⟨w.heap.size, 2, none⟩ (.int .i64 0)).setCell ⟨w.heap.size, 3, none⟩ (.int .i64 0)).setCell ⟨w.heap.size, 4, none⟩ (.int .i64 0)).setCell ⟨w.heap.size, 5, none⟩ (.int .i64 0)).heap[gY]? = some (.cells #[.int .i64 yn, .int .i64 yd] 80)) := Lib.hid (blk_set_other (b' := w.heap.size) (blk_set_other (b' := w.heap.size) (blk_set_other (b' := w.heap.size) (blk_set_other (b' := w.heap.size) (blk_set_other (b' := w.heap.size) (blk_set_other (b' := w.heap.size) (Y.out) (by have := LT_Y.out; omega) 0 (.int .i64 0)) (by have := LT_Y.out; omega) 1 (.int .i64 0)) (by have := LT_Y.out; omega) 2 (.int .i64 0)) (by have := LT_Y.out; omega) 3 (.int .i64 0)) (by have := LT_Y.out; omega) 4 (.int .i64 0)) (by have := LT_Y.out; omega) 5 (.int .i64 0))
    replace NN := Lib.hid (Bset1 (Bset1 (Bset1 (Bset1 (Bset1 (Bset1 (NN.out) (show w.heap.size ≤ w.heap.size by omega) 0 (.int .i64 0)) (show w.heap.size ≤ w.heap.size by omega) 1 (.int .i64 0)) (show w.heap.size ≤ w.heap.size by omega) 2 (.int .i64 0)) (show w.heap.size ≤ w.heap.size by omega) 3 (.int .i64 0)) (show w.heap.size ≤ w.heap.size by omega) 4 (.int .i64 0)) (show w.heap.size ≤ w.heap.size by omega) 5 (.int .i64 0))
    generalize ((((((W8.setCell ⟨w.heap.size, 0, none⟩ (.int .i64 0)).setCell ⟨w.heap.size, 1, none⟩ (.int .i64 0)).setCell ⟨w.heap.size, 2, none⟩ (.int .i64 0)).setCell ⟨w.heap.size, 3, none⟩ (.int .i64 0)).setCell ⟨w.heap.size, 4, none⟩ (.int .i64 0)).setCell ⟨w.heap.size, 5, none⟩ (.int .i64 0)) = W9 at *
    have c_Z_0 := blk_cell Z.out 0 _ rfl
    have c_Z_1 := blk_cell Z.out 1 _ rfl
    have c_Z_2 := blk_cell Z.out 2 _ rfl
    have c_Z_3 := blk_cell Z.out 3 _ rfl
    have c_Z_4 := blk_cell Z.out 4 _ rfl
    have c_Z_5 := blk_cell Z.out 5 _ rfl
    have l_Z := blk_lt Z.out
    exact bodyPost_ret (v := .tuple #[.agg #[.int .i64 0, .int .i64 0, .int .i64 0, .int .i64 0, .int .i64 0, .int .i64 0], .int .i64 ye]) (by simp [results, Try.results30, go_sem, c_Z_0, c_Z_1, c_Z_2, c_Z_3, c_Z_4, c_Z_5]) rfl ⟨by rw [R0.out]; rfl, NN.out⟩
   subst hy0
   have W1 : Hid (VF xn xd) := Lib.hid (by rcases V1.out with h | h; exact absurd h (by decide); exact h.2.1)
   have W2 : Hid (VF yn yd) := Lib.hid (by rcases V2.out with h | h; exact absurd h (by decide); exact h.2.1)
   have MV : Hid (R = match valO xn xd yn yd with | none => (16, zV) | some (a, b, D) => if 1000000 < N then (16, zV) else (0, ⟨(hdV l).t, (hdV l).c, (hdV l).i, (hdV l).j, a, b, D, N⟩)) := Lib.hid (by rw [MF.out, if_neg (by simp), if_neg (by simp)])
   clear V1 V2 MF
   obtain ⟨va, vb, vD, ve, hvr⟩ : ∃ a b d e, valR xn xd yn yd = (a, b, d, e) := ⟨_, _, _, _, rfl⟩
   have CV : Hid (∀ W : World, Calls Try.prog 44 #[Fv xn xd, Fv yn yd] W fun e w' => e = .returned (.tuple #[.agg #[.int .i64 va, .int .i64 vb, .int .i64 vD], .int .i64 ve]) ∧ Below W.heap.size W w') := Lib.hid (fun W => by have h := rvalue_calls W1.out W2.out W; rw [hvr] at h; exact h)
   have HVO : Hid ((ve = 16 ∧ R = (16, zV)) ∨ (ve = 0 ∧ R = if 1000000 < N then (16, zV) else (0, ⟨(hdV l).t, (hdV l).c, (hdV l).i, (hdV l).j, va, vb, vD, N⟩))) := Lib.hid (by cases h : valO xn xd yn yd with | none => rw [valR_none h] at hvr; injection hvr with _ h1; injection h1 with _ h1; injection h1 with _ h1; exact .inl ⟨h1.symm, by rw [MV.out, h]⟩ | some q => obtain ⟨qa, qb, qD⟩ := q; rw [valR_some h] at hvr; injection hvr with e1 h1; injection h1 with e2 h1; injection h1 with e3 e4; subst e1 e2 e3; exact .inr ⟨e4.symm, by rw [MV.out, h]⟩)
   clear MV hvr W1 W2
   have c_X_0 := blk_cell X.out 0 _ rfl
   have f_X_0 := blk_frozen X.out 0
   have c_X_1 := blk_cell X.out 1 _ rfl
   have f_X_1 := blk_frozen X.out 1
   have l_X := blk_lt X.out
   have c_Y_0 := blk_cell Y.out 0 _ rfl
   have f_Y_0 := blk_frozen Y.out 0
   have c_Y_1 := blk_cell Y.out 1 _ rfl
   have f_Y_1 := blk_frozen Y.out 1
   have l_Y := blk_lt Y.out
   go_wp2_with fail
   clear c_X_0 f_X_0 c_X_1 f_X_1 l_X c_Y_0 f_Y_0 c_Y_1 f_Y_1 l_Y
   refine (CV.out _).mono ?_
   rintro e w10 ⟨rfl, hb⟩
   replace NN := Lib.hid (Bgo NN.out hb)
   replace Z := Lib.hid (blk_next hb Z.out)
   replace X := Lib.hid (blk_next hb X.out)
   replace Y := Lib.hid (blk_next hb Y.out)
   clear hb
   go_upto_region 22 with fail
   clear X Y
   have HB := Lib.hid (show Below w10.heap.size w10 (w10.alloc (.cells #[.int .i64 va, .int .i64 vb, .int .i64 vD] 24)) from (Bal (Below.refl _ _) _))
   have V : Hid ((w10.alloc (.cells #[.int .i64 va, .int .i64 vb, .int .i64 vD] 24)).heap[w10.heap.size]? = some (.cells #[.int .i64 va, .int .i64 vb, .int .i64 vD] 24)) := Lib.hid (blk_new w10 _)
   have LT_V : Hid (w.heap.size < w10.heap.size ∧ w.heap.size ≤ w10.heap.size) := Lib.hid ⟨blk_lt Z.out, NN.out.size⟩
   replace NN := Lib.hid (Bgo NN.out HB.out)
   replace Z := Lib.hid (blk_next HB.out Z.out)
   clear HB
   generalize (w10.alloc (.cells #[.int .i64 va, .int .i64 vb, .int .i64 vD] 24)) = W11 at *
   generalize w10.heap.size = gV at *
   rcases HVO.out with ⟨rfl, hR⟩ | ⟨rfl, hR⟩
   ·have R0 := Lib.hid hR
    clear hR HVO
    have c_Z_0 := blk_cell Z.out 0 _ rfl
    have f_Z_0 := blk_frozen Z.out 0
    have c_Z_1 := blk_cell Z.out 1 _ rfl
    have f_Z_1 := blk_frozen Z.out 1
    have c_Z_2 := blk_cell Z.out 2 _ rfl
    have f_Z_2 := blk_frozen Z.out 2
    have c_Z_3 := blk_cell Z.out 3 _ rfl
    have f_Z_3 := blk_frozen Z.out 3
    have c_Z_4 := blk_cell Z.out 4 _ rfl
    have f_Z_4 := blk_frozen Z.out 4
    have c_Z_5 := blk_cell Z.out 5 _ rfl
    have f_Z_5 := blk_frozen Z.out 5
    have l_Z := blk_lt Z.out
    go_wp2_with fail
    clear c_Z_0 f_Z_0 c_Z_1 f_Z_1 c_Z_2 f_Z_2 c_Z_3 f_Z_3 c_Z_4 f_Z_4 c_Z_5 f_Z_5 l_Z
    replace Z : Hid (((((((W11.setCell ⟨w.heap.size, 0, none⟩ (.int .i64 0)).setCell ⟨w.heap.size, 1, none⟩ (.int .i64 0)).setCell ⟨w.heap.size, 2, none⟩ (.int .i64 0)).setCell ⟨w.heap.size, 3, none⟩ (.int .i64 0)).setCell ⟨w.heap.size, 4, none⟩ (.int .i64 0)).setCell ⟨w.heap.size, 5, none⟩ (.int .i64 0)).heap[w.heap.size]? = some (.cells #[.int .i64 0, .int .i64 0, .int .i64 0, .int .i64 0, .int .i64 0, .int .i64 0] 26)) := Lib.hid (blk_set (blk_set (blk_set (blk_set (blk_set (blk_set (Z.out) 0 (.int .i64 0)) 1 (.int .i64 0)) 2 (.int .i64 0)) 3 (.int .i64 0)) 4 (.int .i64 0)) 5 (.int .i64 0))
    replace V : Hid (((((((W11.setCell ⟨w.heap.size, 0, none⟩ (.int .i64 0)).setCell ⟨w.heap.size, 1, none⟩ (.int .i64 0)).setCell ⟨w.heap.size, 2, none⟩ (.int .i64 0)).setCell ⟨w.heap.size, 3, none⟩ (.int .i64 0)).setCell ⟨w.heap.size, 4, none⟩ (.int .i64 0)).setCell ⟨w.heap.size, 5, none⟩ (.int .i64 0)).heap[gV]? = some (.cells #[.int .i64 va, .int .i64 vb, .int .i64 vD] 24)) := Lib.hid (blk_set_other (b' := w.heap.size) (blk_set_other (b' := w.heap.size) (blk_set_other (b' := w.heap.size) (blk_set_other (b' := w.heap.size) (blk_set_other (b' := w.heap.size) (blk_set_other (b' := w.heap.size) (V.out) (by have := LT_V.out; omega) 0 (.int .i64 0)) (by have := LT_V.out; omega) 1 (.int .i64 0)) (by have := LT_V.out; omega) 2 (.int .i64 0)) (by have := LT_V.out; omega) 3 (.int .i64 0)) (by have := LT_V.out; omega) 4 (.int .i64 0)) (by have := LT_V.out; omega) 5 (.int .i64 0))
    replace NN := Lib.hid (Bset1 (Bset1 (Bset1 (Bset1 (Bset1 (Bset1 (NN.out) (show w.heap.size ≤ w.heap.size by omega) 0 (.int .i64 0)) (show w.heap.size ≤ w.heap.size by omega) 1 (.int .i64 0)) (show w.heap.size ≤ w.heap.size by omega) 2 (.int .i64 0)) (show w.heap.size ≤ w.heap.size by omega) 3 (.int .i64 0)) (show w.heap.size ≤ w.heap.size by omega) 4 (.int .i64 0)) (show w.heap.size ≤ w.heap.size by omega) 5 (.int .i64 0))
    generalize ((((((W11.setCell ⟨w.heap.size, 0, none⟩ (.int .i64 0)).setCell ⟨w.heap.size, 1, none⟩ (.int .i64 0)).setCell ⟨w.heap.size, 2, none⟩ (.int .i64 0)).setCell ⟨w.heap.size, 3, none⟩ (.int .i64 0)).setCell ⟨w.heap.size, 4, none⟩ (.int .i64 0)).setCell ⟨w.heap.size, 5, none⟩ (.int .i64 0)) = W12 at *
    have c_Z_0 := blk_cell Z.out 0 _ rfl
    have c_Z_1 := blk_cell Z.out 1 _ rfl
    have c_Z_2 := blk_cell Z.out 2 _ rfl
    have c_Z_3 := blk_cell Z.out 3 _ rfl
    have c_Z_4 := blk_cell Z.out 4 _ rfl
    have c_Z_5 := blk_cell Z.out 5 _ rfl
    have l_Z := blk_lt Z.out
    exact bodyPost_ret (v := .tuple #[.agg #[.int .i64 0, .int .i64 0, .int .i64 0, .int .i64 0, .int .i64 0, .int .i64 0], .int .i64 16]) (by simp [results, Try.results30, go_sem, c_Z_0, c_Z_1, c_Z_2, c_Z_3, c_Z_4, c_Z_5]) rfl ⟨by rw [R0.out]; rfl, NN.out⟩
   clear HVO
   have hW0 : 0 ≤ N := HWB.out.1
   by_cases hm : 1000000 < N
   ·rw [if_pos hm] at hR
    have R0 := Lib.hid hR
    clear hR
    have qm : decide (1000000 < N) = true := by simpa using hm
    go_wp2_with fail
    refine (CW.out _ (Rd.next NN.out HRD.out)).mono ?_
    rintro e w13 ⟨rfl, hb⟩
    replace NN := Lib.hid (Bgo NN.out hb)
    replace Z := Lib.hid (blk_next hb Z.out)
    replace V := Lib.hid (blk_next hb V.out)
    clear hb
    have c_Z_0 := blk_cell Z.out 0 _ rfl
    have f_Z_0 := blk_frozen Z.out 0
    have c_Z_1 := blk_cell Z.out 1 _ rfl
    have f_Z_1 := blk_frozen Z.out 1
    have c_Z_2 := blk_cell Z.out 2 _ rfl
    have f_Z_2 := blk_frozen Z.out 2
    have c_Z_3 := blk_cell Z.out 3 _ rfl
    have f_Z_3 := blk_frozen Z.out 3
    have c_Z_4 := blk_cell Z.out 4 _ rfl
    have f_Z_4 := blk_frozen Z.out 4
    have c_Z_5 := blk_cell Z.out 5 _ rfl
    have f_Z_5 := blk_frozen Z.out 5
    have l_Z := blk_lt Z.out
    go_wp2_with fail
    clear c_Z_0 f_Z_0 c_Z_1 f_Z_1 c_Z_2 f_Z_2 c_Z_3 f_Z_3 c_Z_4 f_Z_4 c_Z_5 f_Z_5 l_Z
    replace Z : Hid (((((((w13.setCell ⟨w.heap.size, 0, none⟩ (.int .i64 0)).setCell ⟨w.heap.size, 1, none⟩ (.int .i64 0)).setCell ⟨w.heap.size, 2, none⟩ (.int .i64 0)).setCell ⟨w.heap.size, 3, none⟩ (.int .i64 0)).setCell ⟨w.heap.size, 4, none⟩ (.int .i64 0)).setCell ⟨w.heap.size, 5, none⟩ (.int .i64 0)).heap[w.heap.size]? = some (.cells #[.int .i64 0, .int .i64 0, .int .i64 0, .int .i64 0, .int .i64 0, .int .i64 0] 26)) := Lib.hid (blk_set (blk_set (blk_set (blk_set (blk_set (blk_set (Z.out) 0 (.int .i64 0)) 1 (.int .i64 0)) 2 (.int .i64 0)) 3 (.int .i64 0)) 4 (.int .i64 0)) 5 (.int .i64 0))
    replace V : Hid (((((((w13.setCell ⟨w.heap.size, 0, none⟩ (.int .i64 0)).setCell ⟨w.heap.size, 1, none⟩ (.int .i64 0)).setCell ⟨w.heap.size, 2, none⟩ (.int .i64 0)).setCell ⟨w.heap.size, 3, none⟩ (.int .i64 0)).setCell ⟨w.heap.size, 4, none⟩ (.int .i64 0)).setCell ⟨w.heap.size, 5, none⟩ (.int .i64 0)).heap[gV]? = some (.cells #[.int .i64 va, .int .i64 vb, .int .i64 vD] 24)) := Lib.hid (blk_set_other (b' := w.heap.size) (blk_set_other (b' := w.heap.size) (blk_set_other (b' := w.heap.size) (blk_set_other (b' := w.heap.size) (blk_set_other (b' := w.heap.size) (blk_set_other (b' := w.heap.size) (V.out) (by have := LT_V.out; omega) 0 (.int .i64 0)) (by have := LT_V.out; omega) 1 (.int .i64 0)) (by have := LT_V.out; omega) 2 (.int .i64 0)) (by have := LT_V.out; omega) 3 (.int .i64 0)) (by have := LT_V.out; omega) 4 (.int .i64 0)) (by have := LT_V.out; omega) 5 (.int .i64 0))
    replace NN := Lib.hid (Bset1 (Bset1 (Bset1 (Bset1 (Bset1 (Bset1 (NN.out) (show w.heap.size ≤ w.heap.size by omega) 0 (.int .i64 0)) (show w.heap.size ≤ w.heap.size by omega) 1 (.int .i64 0)) (show w.heap.size ≤ w.heap.size by omega) 2 (.int .i64 0)) (show w.heap.size ≤ w.heap.size by omega) 3 (.int .i64 0)) (show w.heap.size ≤ w.heap.size by omega) 4 (.int .i64 0)) (show w.heap.size ≤ w.heap.size by omega) 5 (.int .i64 0))
    generalize ((((((w13.setCell ⟨w.heap.size, 0, none⟩ (.int .i64 0)).setCell ⟨w.heap.size, 1, none⟩ (.int .i64 0)).setCell ⟨w.heap.size, 2, none⟩ (.int .i64 0)).setCell ⟨w.heap.size, 3, none⟩ (.int .i64 0)).setCell ⟨w.heap.size, 4, none⟩ (.int .i64 0)).setCell ⟨w.heap.size, 5, none⟩ (.int .i64 0)) = W14 at *
    have c_Z_0 := blk_cell Z.out 0 _ rfl
    have c_Z_1 := blk_cell Z.out 1 _ rfl
    have c_Z_2 := blk_cell Z.out 2 _ rfl
    have c_Z_3 := blk_cell Z.out 3 _ rfl
    have c_Z_4 := blk_cell Z.out 4 _ rfl
    have c_Z_5 := blk_cell Z.out 5 _ rfl
    have l_Z := blk_lt Z.out
    exact bodyPost_ret (v := .tuple #[.agg #[.int .i64 0, .int .i64 0, .int .i64 0, .int .i64 0, .int .i64 0, .int .i64 0], .int .i64 16]) (by simp [results, Try.results30, go_sem, c_Z_0, c_Z_1, c_Z_2, c_Z_3, c_Z_4, c_Z_5]) rfl ⟨by rw [R0.out]; rfl, NN.out⟩
   rw [if_neg hm] at hR
   have R0 := Lib.hid hR
   clear hR
   have qm : decide (1000000 < N) = false := by simpa using hm
   go_wp2_with fail
   refine (CW.out _ (Rd.next NN.out HRD.out)).mono ?_
   rintro e w15 ⟨rfl, hb⟩
   replace NN := Lib.hid (Bgo NN.out hb)
   replace Z := Lib.hid (blk_next hb Z.out)
   replace V := Lib.hid (blk_next hb V.out)
   clear hb
   obtain ⟨gx, cx, cur, ex, -, hcx, hbx, hrx⟩ := OG.rec_ (HL.out.next NN.out) vr6_len h0
   injection ex with eA eL eC
   subst eA eC
   clear eL
   rw [← rowAt_lt h0, ← hd_row h0] at hrx
   have HC0 : Hid (∀ j u, (vr6 (hdV l))[j]? = some u → cur[j]? = some u) := Lib.hid (fun j u h => by have := hrx j u h; rwa [Nat.zero_mul, Nat.zero_add] at this)
   have X1 := Lib.hid hbx
   clear hrx hbx
   have h0c : 0 < c := by omega
   generalize hdV l = r0 at *
   go_upto_region 24 with fail
   have l1 : gx < w.heap.size := by obtain ⟨g3, c3, cur3, e3, -, -, hb, -⟩ := OG.rec_ HL.out vr6_len h0; injection e3 with e3 _ _; injection e3 with e3; injection e3 with e3 _; rw [e3]; exact blk_lt hb
   have HDRW := Lib.hid (Below.drew (Below.refl w15.heap.size w15))
   replace NN := Lib.hid (Bgo NN.out HDRW.out)
   replace X1 := Lib.hid (blk_next HDRW.out X1.out)
   replace Z := Lib.hid (blk_next HDRW.out Z.out)
   replace V := Lib.hid (blk_next HDRW.out V.out)
   clear HDRW
   have HAL : Hid (∀ kx9 : Nat, GK [(3, gx, .cells cur 26), (7, gx, .cells cur 26), (8, gV, .cells #[.int .i64 va, .int .i64 vb, .int .i64 vD] 24)] kx9 w15.drew) := Lib.hid (fun kx9 => fun px9 hp e => by
    simp only [List.mem_cons, List.not_mem_nil, or_false] at hp
    rcases hp with rfl | rfl | rfl
    ·exact X1.out
    ·exact X1.out
    ·exact V.out
   )
   refine region_G (S := GK [(3, gx, .cells cur 26), (7, gx, .cells cur 26), (8, gV, .cells #[.int .i64 va, .int .i64 vb, .int .i64 vD] 24)]) (by kernel_rfl) ?_
   refine tG 0 (.slice (some ⟨gx, 0, none⟩) l.length c) (some 115) (GK.grow _) rfl (YieldsIf.toG (Or.inl ⟨by rfl, ?_⟩)) (GK.drop (by simp)) ?_
   ·intro X hX
    clear hX
    go_simp
   try simp only [Act.put, zA, zB, zC]
   refine tG 1 (.pointer (some ⟨gx, 0, none⟩)) (some 116) (GK.grow _) rfl (YieldsIf.toG (Or.inl ⟨by rfl, ?_⟩)) (GK.drop (by simp)) ?_
   ·intro X hX
    clear hX
    go_simp
   try simp only [Act.put, zA, zB, zC]
   refine tG 2 (.pointer (some ⟨gx, 0, none⟩)) (some 117) (GK.grow _) rfl (YieldsIf.toG (Or.inl ⟨by rfl, ?_⟩)) (GK.drop (by simp)) ?_
   ·intro X hX
    clear hX
    go_simp
   try simp only [Act.put, zA, zB, zC]
   refine tG 3 (.int .i64 r0.i) (some 118) (GK.grow _) rfl (YieldsIf.toG (Or.inl ⟨by rfl, ?_⟩)) (HAL.out 3) ?_
   ·intro X hX
    have hh := hX (3, gx, .cells cur 26) (List.Mem.head _) rfl
    have hh0 := (blk_cell hh 0 _ (HC0.out 0 _ rfl))
    have hhl := blk_lt hh
    clear hh
    clear hX
    go_simp
   try simp only [Act.put, zA, zB, zC]
   refine tG 4 (.slice (some ⟨gx, 0, none⟩) l.length c) (some 119) (GK.grow _) rfl (YieldsIf.toG (Or.inl ⟨by rfl, ?_⟩)) (GK.drop (by simp)) ?_
   ·intro X hX
    clear hX
    go_simp
   try simp only [Act.put, zA, zB, zC]
   refine tG 5 (.pointer (some ⟨gx, 0, none⟩)) (some 120) (GK.grow _) rfl (YieldsIf.toG (Or.inl ⟨by rfl, ?_⟩)) (GK.drop (by simp)) ?_
   ·intro X hX
    clear hX
    go_simp
   try simp only [Act.put, zA, zB, zC]
   refine tG 6 (.pointer (some ⟨gx, 1, none⟩)) (some 121) (GK.grow _) rfl (YieldsIf.toG (Or.inl ⟨by rfl, ?_⟩)) (GK.drop (by simp)) ?_
   ·intro X hX
    clear hX
    go_simp
   try simp only [Act.put, zA, zB, zC]
   refine tG 7 (.int .i64 r0.j) (some 122) (GK.grow _) rfl (YieldsIf.toG (Or.inl ⟨by rfl, ?_⟩)) (HAL.out 7) ?_
   ·intro X hX
    have hh := hX (7, gx, .cells cur 26) (List.Mem.tail _ (List.Mem.head _)) rfl
    have hh0 := (blk_cell hh 1 _ (HC0.out 1 _ rfl))
    have hhl := blk_lt hh
    clear hh
    clear hX
    go_simp
   try simp only [Act.put, zA, zB, zC]
   refine tG 8 (.agg #[.int .i64 va, .int .i64 vb, .int .i64 vD]) (some 123) (GK.grow _) rfl (YieldsIf.toG (Or.inl ⟨by rfl, ?_⟩)) (HAL.out 8) ?_
   ·intro X hX
    have hh := hX (8, gV, .cells #[.int .i64 va, .int .i64 vb, .int .i64 vD] 24) (List.Mem.tail _ (List.Mem.tail _ (List.Mem.head _))) rfl
    have hh0 := blk_cell hh 0 _ rfl
    have hh1 := blk_cell hh 1 _ rfl
    have hh2 := blk_cell hh 2 _ rfl
    have hhl := blk_lt hh
    clear hh
    clear hX
    go_simp
   try simp only [Act.put, zA, zB, zC]
   refine tG 9 (.slice (some ⟨gx, 0, none⟩) l.length c) (some 124) (GK.grow _) rfl (YieldsIf.toG (Or.inl ⟨by rfl, ?_⟩)) (GK.drop (by simp)) ?_
   ·intro X hX
    clear hX
    go_simp
   try simp only [Act.put, zA, zB, zC]
   refine only_G 10 (by kernel_rfl) rfl (fun X16 hX K' hK' => ?_)
   replace NN := Lib.hid (Bgo NN.out hX)
   replace X1 := Lib.hid (blk_next hX X1.out)
   replace Z := Lib.hid (blk_next hX Z.out)
   replace V := Lib.hid (blk_next hX V.out)
   replace HAL := Lib.hid (fun kx9 => GK.grow _ _ _ _ (HAL.out kx9) hX)
   clear hX
   go_simp
   refine (CW.out X16 (Rd.next NN.out HRD.out)).mono ?_
   rintro e w17 ⟨rfl, hb9⟩
   have HB9 := Lib.hid hb9
   clear hb9
   refine hK'.out _ _ (fun kk hk hS => GK.grow _ _ _ _ hS HB9.out) ?_
   clear hK' K'
   try simp only [Act.put, zA, zB, zC]
   replace NN := Lib.hid (Bgo NN.out HB9.out)
   replace X1 := Lib.hid (blk_next HB9.out X1.out)
   replace Z := Lib.hid (blk_next HB9.out Z.out)
   replace V := Lib.hid (blk_next HB9.out V.out)
   replace HAL := Lib.hid (fun kx9 => GK.grow _ _ _ _ (HAL.out kx9) HB9.out)
   clear HB9
   refine tG 11 (.agg #[.int .i64 r0.i, .int .i64 r0.j, .int .i64 va, .int .i64 vb, .int .i64 vD, .int .i64 N]) (some 126) (GK.grow _) rfl (YieldsIf.toG (Or.inl ⟨by rfl, ?_⟩)) (GK.drop (by simp)) ?_
   ·intro X hX
    clear hX
    go_simp
   try simp only [Act.put, zA, zB, zC]
   refine only_G 12 (by kernel_rfl) rfl (fun X18 hX K' hK' => ?_)
   replace NN := Lib.hid (Bgo NN.out hX)
   replace X1 := Lib.hid (blk_next hX X1.out)
   replace Z := Lib.hid (blk_next hX Z.out)
   replace V := Lib.hid (blk_next hX V.out)
   replace HAL := Lib.hid (fun kx9 => GK.grow _ _ _ _ (HAL.out kx9) hX)
   clear hX
   have c_Z_0 := blk_cell Z.out 0 _ rfl
   have f_Z_0 := blk_frozen Z.out 0
   have c_Z_1 := blk_cell Z.out 1 _ rfl
   have f_Z_1 := blk_frozen Z.out 1
   have c_Z_2 := blk_cell Z.out 2 _ rfl
   have f_Z_2 := blk_frozen Z.out 2
   have c_Z_3 := blk_cell Z.out 3 _ rfl
   have f_Z_3 := blk_frozen Z.out 3
   have c_Z_4 := blk_cell Z.out 4 _ rfl
   have f_Z_4 := blk_frozen Z.out 4
   have c_Z_5 := blk_cell Z.out 5 _ rfl
   have f_Z_5 := blk_frozen Z.out 5
   have l_Z := blk_lt Z.out
   go_simp
   clear c_Z_0 f_Z_0 c_Z_1 f_Z_1 c_Z_2 f_Z_2 c_Z_3 f_Z_3 c_Z_4 f_Z_4 c_Z_5 f_Z_5 l_Z
   refine hK'.out _ _ (fun kk hk hS => ?_) ?_
   ·have HN : ∀ px9 ∈ ([(3, gx, .cells cur 26), (7, gx, .cells cur 26), (8, gV, .cells #[.int .i64 va, .int .i64 vb, .int .i64 vD] 24)] : List (Nat × Nat × Obj)), px9.1 = kk → px9.2.1 ≠ w.heap.size := fun px9 hp e => by
     simp only [List.mem_cons, List.not_mem_nil, or_false] at hp
     rcases hp with rfl | rfl | rfl
     ·subst e
      exact bfl (by kernel_rfl) hk
     ·subst e
      exact bfl (by kernel_rfl) hk
     ·subst e
      exact bfl (by kernel_rfl) hk
    exact GK.set (GK.set (GK.set (GK.set (GK.set (GK.set hS HN) HN) HN) HN) HN) HN
   clear hK' K'
   try simp only [Act.put, zA, zB, zC]
   clear HAL
   replace X1 := Lib.hid (blk_set_other (b' := w.heap.size) (blk_set_other (b' := w.heap.size) (blk_set_other (b' := w.heap.size) (blk_set_other (b' := w.heap.size) (blk_set_other (b' := w.heap.size) (blk_set_other (b' := w.heap.size) (X1.out) (fun e => by have := l1; omega) 0 (.int .i64 r0.i)) (fun e => by have := l1; omega) 1 (.int .i64 r0.j)) (fun e => by have := l1; omega) 2 (.int .i64 va)) (fun e => by have := l1; omega) 3 (.int .i64 vb)) (fun e => by have := l1; omega) 4 (.int .i64 vD)) (fun e => by have := l1; omega) 5 (.int .i64 N))
   replace Z : Hid (((((((X18.setCell ⟨w.heap.size, 0, none⟩ (.int .i64 r0.i)).setCell ⟨w.heap.size, 1, none⟩ (.int .i64 r0.j)).setCell ⟨w.heap.size, 2, none⟩ (.int .i64 va)).setCell ⟨w.heap.size, 3, none⟩ (.int .i64 vb)).setCell ⟨w.heap.size, 4, none⟩ (.int .i64 vD)).setCell ⟨w.heap.size, 5, none⟩ (.int .i64 N)).heap[w.heap.size]? = some (.cells #[.int .i64 r0.i, .int .i64 r0.j, .int .i64 va, .int .i64 vb, .int .i64 vD, .int .i64 N] 26)) := Lib.hid (blk_set (blk_set (blk_set (blk_set (blk_set (blk_set (Z.out) 0 (.int .i64 r0.i)) 1 (.int .i64 r0.j)) 2 (.int .i64 va)) 3 (.int .i64 vb)) 4 (.int .i64 vD)) 5 (.int .i64 N))
   replace V : Hid (((((((X18.setCell ⟨w.heap.size, 0, none⟩ (.int .i64 r0.i)).setCell ⟨w.heap.size, 1, none⟩ (.int .i64 r0.j)).setCell ⟨w.heap.size, 2, none⟩ (.int .i64 va)).setCell ⟨w.heap.size, 3, none⟩ (.int .i64 vb)).setCell ⟨w.heap.size, 4, none⟩ (.int .i64 vD)).setCell ⟨w.heap.size, 5, none⟩ (.int .i64 N)).heap[gV]? = some (.cells #[.int .i64 va, .int .i64 vb, .int .i64 vD] 24)) := Lib.hid (blk_set_other (b' := w.heap.size) (blk_set_other (b' := w.heap.size) (blk_set_other (b' := w.heap.size) (blk_set_other (b' := w.heap.size) (blk_set_other (b' := w.heap.size) (blk_set_other (b' := w.heap.size) (V.out) (by have := LT_V.out; omega) 0 (.int .i64 r0.i)) (by have := LT_V.out; omega) 1 (.int .i64 r0.j)) (by have := LT_V.out; omega) 2 (.int .i64 va)) (by have := LT_V.out; omega) 3 (.int .i64 vb)) (by have := LT_V.out; omega) 4 (.int .i64 vD)) (by have := LT_V.out; omega) 5 (.int .i64 N))
   replace NN := Lib.hid (Bset1 (Bset1 (Bset1 (Bset1 (Bset1 (Bset1 (NN.out) (show w.heap.size ≤ w.heap.size by omega) 0 (.int .i64 r0.i)) (show w.heap.size ≤ w.heap.size by omega) 1 (.int .i64 r0.j)) (show w.heap.size ≤ w.heap.size by omega) 2 (.int .i64 va)) (show w.heap.size ≤ w.heap.size by omega) 3 (.int .i64 vb)) (show w.heap.size ≤ w.heap.size by omega) 4 (.int .i64 vD)) (show w.heap.size ≤ w.heap.size by omega) 5 (.int .i64 N))
   generalize ((((((X18.setCell ⟨w.heap.size, 0, none⟩ (.int .i64 r0.i)).setCell ⟨w.heap.size, 1, none⟩ (.int .i64 r0.j)).setCell ⟨w.heap.size, 2, none⟩ (.int .i64 va)).setCell ⟨w.heap.size, 3, none⟩ (.int .i64 vb)).setCell ⟨w.heap.size, 4, none⟩ (.int .i64 vD)).setCell ⟨w.heap.size, 5, none⟩ (.int .i64 N)) = W19 at *
   refine tG 13 (.int .i64 0) (some 3) (GK.grow _) rfl (YieldsIf.toG (Or.inl ⟨by rfl, ?_⟩)) (GK.drop (by simp)) ?_
   ·intro X hX
    clear hX
    go_simp
   try simp only [Act.put, zA, zB, zC]
   refine done_G (by kernel_rfl) (fun X20 hX => ?_) _
   replace NN := Lib.hid (Bgo NN.out hX)
   replace X1 := Lib.hid (blk_next hX X1.out)
   replace Z := Lib.hid (blk_next hX Z.out)
   replace V := Lib.hid (blk_next hX V.out)
   clear hX
   have c_Z_0 := blk_cell Z.out 0 _ rfl
   have f_Z_0 := blk_frozen Z.out 0
   have c_Z_1 := blk_cell Z.out 1 _ rfl
   have f_Z_1 := blk_frozen Z.out 1
   have c_Z_2 := blk_cell Z.out 2 _ rfl
   have f_Z_2 := blk_frozen Z.out 2
   have c_Z_3 := blk_cell Z.out 3 _ rfl
   have f_Z_3 := blk_frozen Z.out 3
   have c_Z_4 := blk_cell Z.out 4 _ rfl
   have f_Z_4 := blk_frozen Z.out 4
   have c_Z_5 := blk_cell Z.out 5 _ rfl
   have f_Z_5 := blk_frozen Z.out 5
   have l_Z := blk_lt Z.out
   go_wp2_with fail
   clear c_Z_0 f_Z_0 c_Z_1 f_Z_1 c_Z_2 f_Z_2 c_Z_3 f_Z_3 c_Z_4 f_Z_4 c_Z_5 f_Z_5 l_Z
   have c_Z_0 := blk_cell Z.out 0 _ rfl
   have c_Z_1 := blk_cell Z.out 1 _ rfl
   have c_Z_2 := blk_cell Z.out 2 _ rfl
   have c_Z_3 := blk_cell Z.out 3 _ rfl
   have c_Z_4 := blk_cell Z.out 4 _ rfl
   have c_Z_5 := blk_cell Z.out 5 _ rfl
   have l_Z := blk_lt Z.out
   exact bodyPost_ret (v := .tuple #[.agg #[.int .i64 r0.i, .int .i64 r0.j, .int .i64 va, .int .i64 vb, .int .i64 vD, .int .i64 N], .int .i64 0]) (by simp [results, Try.results30, go_sem, c_Z_0, c_Z_1, c_Z_2, c_Z_3, c_Z_4, c_Z_5]) rfl ⟨by rw [R0.out], NN.out⟩
  replace hlt : k < l.length := by omega
  obtain ⟨gx, cx, cur, ex, -, hcx, hbx, hrx⟩ := OG.rec_ (HL.out.next NN.out) vr6_len hlt
  obtain ⟨g3, c3, cur3, e3, -, -, hb3, hr3⟩ := OG.rec_ (HL.out.next NN.out) vr6_len h0
  injection ex with eA eL eC
  subst eA eC
  injection e3 with eA eL3 eC
  injection eA with eA
  injection eA with eA _
  subst eA eC
  clear eL eL3
  rw [hbx] at hb3
  injection hb3 with hb3
  injection hb3 with hb3 _ _
  subst hb3
  have hkc : k < c := by omega
  have h0c : 0 < c := by omega
  have l1 : gx < w.heap.size := by obtain ⟨g3, c3, cur3, e3, -, -, hb, -⟩ := OG.rec_ HL.out vr6_len h0; injection e3 with e3 _ _; injection e3 with e3; injection e3 with e3 _; rw [e3]; exact blk_lt hb
  have hh : (rowAt l k).i = (rowAt l 0).i ∧ (rowAt l k).j = (rowAt l 0).j := by rw [← hd_row h0, rowAt_lt hlt]; exact HBS.out _ (List.getElem_mem hlt)
  have HRB : Hid (rowB (rowAt l k) = true) := Lib.hid (by rw [rowAt_lt hlt]; exact HV.out _ (List.getElem_mem hlt))
  obtain ⟨x1, x2, y1, y2, hf1, hf2, hcr, hci⟩ := real_parts HRB.out
  have CRE := Lib.hid hcr
  have CIM := Lib.hid hci
  have HF1 := Lib.hid hf1
  have HF2 := Lib.hid hf2
  clear hcr hci hf1 hf2
  rw [← rowAt_lt hlt] at hrx
  rw [← rowAt_lt h0] at hr3
  have HC1 : Hid (∀ j u, (vr6 (rowAt l k))[j]? = some u → cur[k * 6 + j]? = some u) := Lib.hid hrx
  have HC0 : Hid (∀ j u, [(.int .i64 (rowAt l k).i : Value), .int .i64 (rowAt l k).j][j]? = some u → cur[j]? = some u) := Lib.hid (fun j u h => by rw [hh.1, hh.2] at h; have := hr3 j u (two_get h); rwa [Nat.zero_mul, Nat.zero_add] at this)
  have X1 := Lib.hid hbx
  clear hrx hr3 hbx hh
  have HRW : Hid (rowAt l k = rowAt l k) := Lib.hid rfl
  obtain ⟨r, hr⟩ : ∃ r, rowAt l k = r := ⟨_, rfl⟩
  have HRQ := Lib.hid hr
  rw [hr] at HC1 HC0 CRE CIM HF1 HF2
  clear hr HRW
  go_upto_region 10 with fail
  have HDRW := Lib.hid (Below.drew (Below.refl wr.heap.size wr))
  replace NN := Lib.hid (Bgo NN.out HDRW.out)
  replace MS := Lib.hid (MnS.next MS.out HDRW.out)
  replace X1 := Lib.hid (blk_next HDRW.out X1.out)
  clear HDRW
  have HAL : Hid (∀ kx9 : Nat, GK [(4, gx, .cells cur 26), (8, gx, .cells cur 26), (15, gx, .cells cur 26), (19, gx, .cells cur 26)] kx9 wr.drew) := Lib.hid (fun kx9 => fun px9 hp e => by
   simp only [List.mem_cons, List.not_mem_nil, or_false] at hp
   rcases hp with rfl | rfl | rfl | rfl
   ·exact X1.out
   ·exact X1.out
   ·exact X1.out
   ·exact X1.out
  )
  refine region_G (S := GK [(4, gx, .cells cur 26), (8, gx, .cells cur 26), (15, gx, .cells cur 26), (19, gx, .cells cur 26)]) (by kernel_rfl) ?_
  refine tG 0 (.slice (some ⟨gx, 0, none⟩) l.length c) (some 28) (GK.grow _) rfl (YieldsIf.toG (Or.inl ⟨by rfl, ?_⟩)) (GK.drop (by simp)) ?_
  ·intro X hX
   clear hX
   go_simp
  try simp only [Act.put, zA, zB, zC]
  refine tG 1 (.int .i64 k) (some 29) (GK.grow _) rfl (YieldsIf.toG (Or.inl ⟨by rfl, ?_⟩)) (GK.drop (by simp)) ?_
  ·intro X hX
   clear hX
   go_simp
  try simp only [Act.put, zA, zB, zC]
  refine tG 2 (.pointer (some ⟨gx, k * 6, none⟩)) (some 30) (GK.grow _) rfl (YieldsIf.toG (Or.inl ⟨by rfl, ?_⟩)) (GK.drop (by simp)) ?_
  ·intro X hX
   clear hX
   go_simp
  try simp only [Act.put, zA, zB, zC]
  refine tG 3 (.pointer (some ⟨gx, k * 6, none⟩)) (some 31) (GK.grow _) rfl (YieldsIf.toG (Or.inl ⟨by rfl, ?_⟩)) (GK.drop (by simp)) ?_
  ·intro X hX
   clear hX
   go_simp
  try simp only [Act.put, zA, zB, zC]
  refine tG 4 (.int .i64 r.i) (some 32) (GK.grow _) rfl (YieldsIf.toG (Or.inl ⟨by rfl, ?_⟩)) (HAL.out 4) ?_
  ·intro X hX
   have hh := hX (4, gx, .cells cur 26) (List.Mem.head _) rfl
   have hh0 := (blk_cell hh (k * 6 + 0) _ (HC1.out 0 _ rfl))
   simp only [Nat.add_zero] at hh0
   have hhl := blk_lt hh
   clear hh
   clear hX
   go_simp
  try simp only [Act.put, zA, zB, zC]
  refine tG 5 (.slice (some ⟨gx, 0, none⟩) l.length c) (some 33) (GK.grow _) rfl (YieldsIf.toG (Or.inl ⟨by rfl, ?_⟩)) (GK.drop (by simp)) ?_
  ·intro X hX
   clear hX
   go_simp
  try simp only [Act.put, zA, zB, zC]
  refine tG 6 (.pointer (some ⟨gx, 0, none⟩)) (some 34) (GK.grow _) rfl (YieldsIf.toG (Or.inl ⟨by rfl, ?_⟩)) (GK.drop (by simp)) ?_
  ·intro X hX
   clear hX
   go_simp
  try simp only [Act.put, zA, zB, zC]
  refine tG 7 (.pointer (some ⟨gx, 0, none⟩)) (some 35) (GK.grow _) rfl (YieldsIf.toG (Or.inl ⟨by rfl, ?_⟩)) (GK.drop (by simp)) ?_
  ·intro X hX
   clear hX
   go_simp
  try simp only [Act.put, zA, zB, zC]
  refine tG 8 (.int .i64 r.i) (some 36) (GK.grow _) rfl (YieldsIf.toG (Or.inl ⟨by rfl, ?_⟩)) (HAL.out 8) ?_
  ·intro X hX
   have hh := hX (8, gx, .cells cur 26) (List.Mem.tail _ (List.Mem.head _)) rfl
   have hh0 := (blk_cell hh 0 _ (HC0.out 0 _ rfl))
   have hhl := blk_lt hh
   clear hh
   clear hX
   go_simp
  try simp only [Act.put, zA, zB, zC]
  refine tG 9 (.bool false) (some 37) (GK.grow _) rfl (YieldsIf.toG (Or.inl ⟨by rfl, ?_⟩)) (GK.drop (by simp)) ?_
  ·intro X hX
   clear hX
   go_simp
  try simp only [Act.put, zA, zB, zC]
  refine tG 10 (.bool false) (some 38) (GK.grow _) rfl (YieldsIf.toG (Or.inl ⟨by rfl, ?_⟩)) (GK.drop (by simp)) ?_
  ·intro X hX
   clear hX
   go_simp
  try simp only [Act.put, zA, zB, zC]
  refine tG 11 (.slice (some ⟨gx, 0, none⟩) l.length c) (some 39) (GK.grow _) rfl (YieldsIf.toG (Or.inl ⟨by rfl, ?_⟩)) (GK.drop (by simp)) ?_
  ·intro X hX
   clear hX
   go_simp
  try simp only [Act.put, zA, zB, zC]
  refine tG 12 (.int .i64 k) (some 40) (GK.grow _) rfl (YieldsIf.toG (Or.inl ⟨by rfl, ?_⟩)) (GK.drop (by simp)) ?_
  ·intro X hX
   clear hX
   go_simp
  try simp only [Act.put, zA, zB, zC]
  refine tG 13 (.pointer (some ⟨gx, k * 6, none⟩)) (some 41) (GK.grow _) rfl (YieldsIf.toG (Or.inl ⟨by rfl, ?_⟩)) (GK.drop (by simp)) ?_
  ·intro X hX
   clear hX
   go_simp
  try simp only [Act.put, zA, zB, zC]
  refine tG 14 (.pointer (some ⟨gx, k * 6 + 1, none⟩)) (some 42) (GK.grow _) rfl (YieldsIf.toG (Or.inl ⟨by rfl, ?_⟩)) (GK.drop (by simp)) ?_
  ·intro X hX
   clear hX
   go_simp
  try simp only [Act.put, zA, zB, zC]
  refine tG 15 (.int .i64 r.j) (some 43) (GK.grow _) rfl (YieldsIf.toG (Or.inl ⟨by rfl, ?_⟩)) (HAL.out 15) ?_
  ·intro X hX
   have hh := hX (15, gx, .cells cur 26) (List.Mem.tail _ (List.Mem.tail _ (List.Mem.head _))) rfl
   have hh0 := (blk_cell hh (k * 6 + 1) _ (HC1.out 1 _ rfl))
   have hhl := blk_lt hh
   clear hh
   clear hX
   go_simp
  try simp only [Act.put, zA, zB, zC]
  refine tG 16 (.slice (some ⟨gx, 0, none⟩) l.length c) (some 44) (GK.grow _) rfl (YieldsIf.toG (Or.inl ⟨by rfl, ?_⟩)) (GK.drop (by simp)) ?_
  ·intro X hX
   clear hX
   go_simp
  try simp only [Act.put, zA, zB, zC]
  refine tG 17 (.pointer (some ⟨gx, 0, none⟩)) (some 45) (GK.grow _) rfl (YieldsIf.toG (Or.inl ⟨by rfl, ?_⟩)) (GK.drop (by simp)) ?_
  ·intro X hX
   clear hX
   go_simp
  try simp only [Act.put, zA, zB, zC]
  refine tG 18 (.pointer (some ⟨gx, 1, none⟩)) (some 46) (GK.grow _) rfl (YieldsIf.toG (Or.inl ⟨by rfl, ?_⟩)) (GK.drop (by simp)) ?_
  ·intro X hX
   clear hX
   go_simp
  try simp only [Act.put, zA, zB, zC]
  refine tG 19 (.int .i64 r.j) (some 47) (GK.grow _) rfl (YieldsIf.toG (Or.inl ⟨by rfl, ?_⟩)) (HAL.out 19) ?_
  ·intro X hX
   have hh := hX (19, gx, .cells cur 26) (List.Mem.tail _ (List.Mem.tail _ (List.Mem.tail _ (List.Mem.head _)))) rfl
   have hh0 := (blk_cell hh 1 _ (HC0.out 1 _ rfl))
   have hhl := blk_lt hh
   clear hh
   clear hX
   go_simp
  try simp only [Act.put, zA, zB, zC]
  refine tG 20 (.bool false) (some 48) (GK.grow _) rfl (YieldsIf.toG (Or.inl ⟨by rfl, ?_⟩)) (GK.drop (by simp)) ?_
  ·intro X hX
   clear hX
   go_simp
  try simp only [Act.put, zA, zB, zC]
  refine tG 21 (.bool false) (some 49) (GK.grow _) rfl (YieldsIf.toG (Or.inl ⟨by rfl, ?_⟩)) (GK.drop (by simp)) ?_
  ·intro X hX
   clear hX
   go_simp
  try simp only [Act.put, zA, zB, zC]
  clear HAL
  refine done_G (by kernel_rfl) (fun X21 hX => ?_) _
  replace NN := Lib.hid (Bgo NN.out hX)
  replace MS := Lib.hid (MnS.next MS.out hX)
  replace X1 := Lib.hid (blk_next hX X1.out)
  clear hX
  go_upto_region 12 with fail
  have HDRW := Lib.hid (Below.drew (Below.refl X21.heap.size X21))
  replace NN := Lib.hid (Bgo NN.out HDRW.out)
  replace MS := Lib.hid (MnS.next MS.out HDRW.out)
  replace X1 := Lib.hid (blk_next HDRW.out X1.out)
  clear HDRW
  have HAL : Hid (∀ kx9 : Nat, GK [(5, gx, .cells cur 26), (14, gx, .cells cur 26), (23, gx, .cells cur 26)] kx9 X21.drew) := Lib.hid (fun kx9 => fun px9 hp e => by
   simp only [List.mem_cons, List.not_mem_nil, or_false] at hp
   rcases hp with rfl | rfl | rfl
   ·exact X1.out
   ·exact X1.out
   ·exact X1.out
  )
  refine region_G (S := GK [(5, gx, .cells cur 26), (14, gx, .cells cur 26), (23, gx, .cells cur 26)]) (by kernel_rfl) ?_
  refine tG 0 (v1) (some 51) (GK.grow _) rfl (YieldsIf.toG (Or.inl ⟨by rfl, ?_⟩)) (GK.drop (by simp)) ?_
  ·intro X hX
   clear hX
   go_simp
  try simp only [Act.put, zA, zB, zC]
  refine tG 1 (.slice (some ⟨gx, 0, none⟩) l.length c) (some 52) (GK.grow _) rfl (YieldsIf.toG (Or.inl ⟨by rfl, ?_⟩)) (GK.drop (by simp)) ?_
  ·intro X hX
   clear hX
   go_simp
  try simp only [Act.put, zA, zB, zC]
  refine tG 2 (.int .i64 k) (some 53) (GK.grow _) rfl (YieldsIf.toG (Or.inl ⟨by rfl, ?_⟩)) (GK.drop (by simp)) ?_
  ·intro X hX
   clear hX
   go_simp
  try simp only [Act.put, zA, zB, zC]
  refine tG 3 (.pointer (some ⟨gx, k * 6, none⟩)) (some 54) (GK.grow _) rfl (YieldsIf.toG (Or.inl ⟨by rfl, ?_⟩)) (GK.drop (by simp)) ?_
  ·intro X hX
   clear hX
   go_simp
  try simp only [Act.put, zA, zB, zC]
  refine tG 4 (.pointer (some ⟨gx, k * 6 + 2, none⟩)) (some 55) (GK.grow _) rfl (YieldsIf.toG (Or.inl ⟨by rfl, ?_⟩)) (GK.drop (by simp)) ?_
  ·intro X hX
   clear hX
   go_simp
  try simp only [Act.put, zA, zB, zC]
  refine tG 5 (.agg #[.int .i64 r.re, .int .i64 r.im, .int .i64 r.dn]) (some 56) (GK.grow _) rfl (YieldsIf.toG (Or.inl ⟨by rfl, ?_⟩)) (HAL.out 5) ?_
  ·intro X hX
   have hh := hX (5, gx, .cells cur 26) (List.Mem.head _) rfl
   have hh0 := (blk_cell hh (k * 6 + 2) _ (HC1.out 2 _ rfl))
   have hh1 := (blk_cell hh (k * 6 + 3) _ (HC1.out 3 _ rfl))
   have hh2 := (blk_cell hh (k * 6 + 4) _ (HC1.out 4 _ rfl))
   have hhl := blk_lt hh
   clear hh
   clear hX
   go_simp
  try simp only [Act.put, zA, zB, zC]
  have CFn : ∀ (args : Array Value) (W : World), Sem.run Try.prog (callFunc 41 args) W = .ok (.enter 41 args) W := fun _ _ => by kernel_rfl
  refine tG 6 (.agg #[.int .i64 x1, .int .i64 x2]) (some 57) (GK.grow _) rfl (yieldsG_call 41 #[.agg #[.int .i64 r.re, .int .i64 r.im, .int .i64 r.dn]] (by rfl) ?_ (fun X hS => CRE.out X)) (GK.drop (by simp)) ?_
  ·intro X hX
   clear hX
   go_simp
  clear CFn
  try simp only [Act.put, zA, zB, zC]
  refine tG 9 (v2) (some 60) (GK.grow _) rfl (YieldsIf.toG (Or.inl ⟨by rfl, ?_⟩)) (GK.drop (by simp)) ?_
  ·intro X hX
   clear hX
   go_simp
  try simp only [Act.put, zA, zB, zC]
  refine tG 10 (.slice (some ⟨gx, 0, none⟩) l.length c) (some 61) (GK.grow _) rfl (YieldsIf.toG (Or.inl ⟨by rfl, ?_⟩)) (GK.drop (by simp)) ?_
  ·intro X hX
   clear hX
   go_simp
  try simp only [Act.put, zA, zB, zC]
  refine tG 11 (.int .i64 k) (some 62) (GK.grow _) rfl (YieldsIf.toG (Or.inl ⟨by rfl, ?_⟩)) (GK.drop (by simp)) ?_
  ·intro X hX
   clear hX
   go_simp
  try simp only [Act.put, zA, zB, zC]
  refine tG 12 (.pointer (some ⟨gx, k * 6, none⟩)) (some 63) (GK.grow _) rfl (YieldsIf.toG (Or.inl ⟨by rfl, ?_⟩)) (GK.drop (by simp)) ?_
  ·intro X hX
   clear hX
   go_simp
  try simp only [Act.put, zA, zB, zC]
  refine tG 13 (.pointer (some ⟨gx, k * 6 + 2, none⟩)) (some 64) (GK.grow _) rfl (YieldsIf.toG (Or.inl ⟨by rfl, ?_⟩)) (GK.drop (by simp)) ?_
  ·intro X hX
   clear hX
   go_simp
  try simp only [Act.put, zA, zB, zC]
  refine tG 14 (.agg #[.int .i64 r.re, .int .i64 r.im, .int .i64 r.dn]) (some 65) (GK.grow _) rfl (YieldsIf.toG (Or.inl ⟨by rfl, ?_⟩)) (HAL.out 14) ?_
  ·intro X hX
   have hh := hX (14, gx, .cells cur 26) (List.Mem.tail _ (List.Mem.head _)) rfl
   have hh0 := (blk_cell hh (k * 6 + 2) _ (HC1.out 2 _ rfl))
   have hh1 := (blk_cell hh (k * 6 + 3) _ (HC1.out 3 _ rfl))
   have hh2 := (blk_cell hh (k * 6 + 4) _ (HC1.out 4 _ rfl))
   have hhl := blk_lt hh
   clear hh
   clear hX
   go_simp
  try simp only [Act.put, zA, zB, zC]
  refine tG 18 (v3) (some 69) (GK.grow _) rfl (YieldsIf.toG (Or.inl ⟨by rfl, ?_⟩)) (GK.drop (by simp)) ?_
  ·intro X hX
   clear hX
   go_simp
  try simp only [Act.put, zA, zB, zC]
  refine tG 19 (.slice (some ⟨gx, 0, none⟩) l.length c) (some 70) (GK.grow _) rfl (YieldsIf.toG (Or.inl ⟨by rfl, ?_⟩)) (GK.drop (by simp)) ?_
  ·intro X hX
   clear hX
   go_simp
  try simp only [Act.put, zA, zB, zC]
  refine tG 20 (.int .i64 k) (some 71) (GK.grow _) rfl (YieldsIf.toG (Or.inl ⟨by rfl, ?_⟩)) (GK.drop (by simp)) ?_
  ·intro X hX
   clear hX
   go_simp
  try simp only [Act.put, zA, zB, zC]
  refine tG 21 (.pointer (some ⟨gx, k * 6, none⟩)) (some 72) (GK.grow _) rfl (YieldsIf.toG (Or.inl ⟨by rfl, ?_⟩)) (GK.drop (by simp)) ?_
  ·intro X hX
   clear hX
   go_simp
  try simp only [Act.put, zA, zB, zC]
  refine tG 22 (.pointer (some ⟨gx, k * 6 + 5, none⟩)) (some 73) (GK.grow _) rfl (YieldsIf.toG (Or.inl ⟨by rfl, ?_⟩)) (GK.drop (by simp)) ?_
  ·intro X hX
   clear hX
   go_simp
  try simp only [Act.put, zA, zB, zC]
  refine tG 23 (.int .i64 r.n) (some 74) (GK.grow _) rfl (YieldsIf.toG (Or.inl ⟨by rfl, ?_⟩)) (HAL.out 23) ?_
  ·intro X hX
   have hh := hX (23, gx, .cells cur 26) (List.Mem.tail _ (List.Mem.tail _ (List.Mem.head _))) rfl
   have hh0 := (blk_cell hh (k * 6 + 5) _ (HC1.out 5 _ rfl))
   have hhl := blk_lt hh
   clear hh
   clear hX
   go_simp
  try simp only [Act.put, zA, zB, zC]
  refine two_G 7 24 (by kernel_rfl) rfl rfl ?_ ?_
  ·intro X22 hX K' hK'
   replace NN := Lib.hid (Bgo NN.out hX)
   replace MS := Lib.hid (MnS.next MS.out hX)
   replace X1 := Lib.hid (blk_next hX X1.out)
   replace HAL := Lib.hid (fun kx9 => GK.grow _ _ _ _ (HAL.out kx9) hX)
   clear hX
   go_simp
   refine hK'.out _ _ (fun _ _ h => h.alloc _) ?_
   clear hK' K'
   try simp only [Act.put, zA, zB, zC]
   have HB := Lib.hid (Bal (Below.refl X22.heap.size X22) (.cells #[.int .i64 x1, .int .i64 x2] 80))
   have S1 : Hid ((X22.alloc (.cells #[.int .i64 x1, .int .i64 x2] 80)).heap[X22.heap.size]? = some (.cells #[.int .i64 x1, .int .i64 x2] 80)) := Lib.hid (blk_new X22 (.cells #[.int .i64 x1, .int .i64 x2] 80))
   replace NN := Lib.hid (Bgo NN.out HB.out)
   replace MS := Lib.hid (MnS.next MS.out HB.out)
   replace X1 := Lib.hid (blk_next HB.out X1.out)
   replace HAL := Lib.hid (fun kx9 => GK.grow _ _ _ _ (HAL.out kx9) HB.out)
   clear HB
   generalize X22.alloc (.cells #[.int .i64 x1, .int .i64 x2] 80) = W23 at *
   generalize X22.heap.size = gS1 at *
   refine two_G 8 24 (by kernel_rfl) rfl rfl ?_ ?_
   ·intro X24 hX K' hK'
    replace NN := Lib.hid (Bgo NN.out hX)
    replace MS := Lib.hid (MnS.next MS.out hX)
    replace X1 := Lib.hid (blk_next hX X1.out)
    replace S1 := Lib.hid (blk_next hX S1.out)
    replace HAL := Lib.hid (fun kx9 => GK.grow _ _ _ _ (HAL.out kx9) hX)
    clear hX
    refine step_gapp (tyF false) rfl _ _ rfl (w.heap.size + 1) v1 (l.take k) rfl (some ⟨gS1, 0, none⟩) 1 1 [r] rfl MS.out.o1 rfl (rd_own1 S1.out HF1.out rfl) (by rw [List.length_take]; omega) MS.out.sz ?_
    intro u1 w9 o9 g9 t9
    refine hK'.out _ _ (fun kk hk hS => GK.grown hS g9 (fun p9 hp => by have h9 : p9.2.1 = gx := (by simp only [List.mem_cons, List.not_mem_nil, or_false] at hp; rcases hp with rfl | rfl | rfl <;> rfl); rw [h9]; exact (MS.out.far l1).1)) ?_
    clear hK' K'
    try simp only [Act.put, zA, zB, zC]
    clear HAL
    have TF := Lib.hid (fun (b : Nat) (cs : Array Value) (h : X24.heap[b]? = some (.cells cs 3)) => (g9.block b (blk_lt h) (fun e => by obtain ⟨-, cs', hc'⟩ := MS.out.o1.own e.symm; rw [h] at hc'; injection hc' with hc'; injection hc' with _ hc' _; exact absurd hc' (by decide))).trans h)
    replace MS := Lib.hid (MS.out.app1 hlt (by rw [HRQ.out]; exact o9) g9 t9)
    replace NN := Lib.hid MS.out.bl
    clear S1
    clear X1
    clear o9 g9 t9 TF
    have CFn : ∀ (args : Array Value) (W : World), Sem.run Try.prog (callFunc 42 args) W = .ok (.enter 42 args) W := fun _ _ => by kernel_rfl
    refine tG 15 (.agg #[.int .i64 y1, .int .i64 y2]) (some 66) (GK.grow _) rfl (yieldsG_call 42 #[.agg #[.int .i64 r.re, .int .i64 r.im, .int .i64 r.dn]] (by rfl) ?_ (fun X hS => CIM.out X)) (GK.drop (by simp)) ?_
    ·intro X hX
     clear hX
     go_simp
    clear CFn
    try simp only [Act.put, zA, zB, zC]
    refine two_G 16 24 (by kernel_rfl) rfl rfl ?_ ?_
    ·intro X25 hX K' hK'
     replace NN := Lib.hid (Bgo NN.out hX)
     replace MS := Lib.hid (MnS.next MS.out hX)
     skip
     clear hX
     go_simp
     refine hK'.out _ _ (fun _ _ h => h.alloc _) ?_
     clear hK' K'
     try simp only [Act.put, zA, zB, zC]
     have HB := Lib.hid (Bal (Below.refl X25.heap.size X25) (.cells #[.int .i64 y1, .int .i64 y2] 80))
     have S2 : Hid ((X25.alloc (.cells #[.int .i64 y1, .int .i64 y2] 80)).heap[X25.heap.size]? = some (.cells #[.int .i64 y1, .int .i64 y2] 80)) := Lib.hid (blk_new X25 (.cells #[.int .i64 y1, .int .i64 y2] 80))
     replace NN := Lib.hid (Bgo NN.out HB.out)
     replace MS := Lib.hid (MnS.next MS.out HB.out)
     skip
     clear HB
     generalize X25.alloc (.cells #[.int .i64 y1, .int .i64 y2] 80) = W26 at *
     generalize X25.heap.size = gS2 at *
     refine two_G 17 24 (by kernel_rfl) rfl rfl ?_ ?_
     ·intro X27 hX K' hK'
      replace NN := Lib.hid (Bgo NN.out hX)
      replace MS := Lib.hid (MnS.next MS.out hX)
      replace S2 := Lib.hid (blk_next hX S2.out)
      skip
      clear hX
      refine step_gapp (tyF true) rfl _ _ rfl (w.heap.size + 1) v2 (l.take k) rfl (some ⟨gS2, 0, none⟩) 1 1 [r] rfl MS.out.o2 rfl (rd_own1 S2.out HF2.out rfl) (by rw [List.length_take]; omega) MS.out.sz ?_
      intro u2 w9 o9 g9 t9
      refine hK'.out _ _ (fun kk hk hS => GK.grown hS g9 (fun p9 hp => by have h9 : p9.2.1 = gx := (by simp only [List.mem_cons, List.not_mem_nil, or_false] at hp; rcases hp with rfl | rfl | rfl <;> rfl); rw [h9]; exact (MS.out.far l1).2.1)) ?_
      clear hK' K'
      try simp only [Act.put, zA, zB, zC]
      skip
      have TF := Lib.hid (fun (b : Nat) (cs : Array Value) (h : X27.heap[b]? = some (.cells cs 3)) => (g9.block b (blk_lt h) (fun e => by obtain ⟨-, cs', hc'⟩ := MS.out.o2.own e.symm; rw [h] at hc'; injection hc' with hc'; injection hc' with _ hc' _; exact absurd hc' (by decide))).trans h)
      replace MS := Lib.hid (MS.out.app2 hlt (by rw [HRQ.out]; exact o9) g9 t9)
      replace NN := Lib.hid MS.out.bl
      clear S2
      clear o9 g9 t9 TF
      refine only_G 24 (by kernel_rfl) rfl (fun X28 hX K' hK' => ?_)
      replace NN := Lib.hid (Bgo NN.out hX)
      replace MS := Lib.hid (MnS.next MS.out hX)
      skip
      clear hX
      go_simp
      refine hK'.out _ _ (fun _ _ h => h.alloc _) ?_
      clear hK' K'
      try simp only [Act.put, zA, zB, zC]
      have HB := Lib.hid (Bal (Below.refl X28.heap.size X28) (.cells #[.int .i64 r.n] 3))
      have S3 : Hid ((X28.alloc (.cells #[.int .i64 r.n] 3)).heap[X28.heap.size]? = some (.cells #[.int .i64 r.n] 3)) := Lib.hid (blk_new X28 (.cells #[.int .i64 r.n] 3))
      replace NN := Lib.hid (Bgo NN.out HB.out)
      replace MS := Lib.hid (MnS.next MS.out HB.out)
      skip
      clear HB
      generalize X28.alloc (.cells #[.int .i64 r.n] 3) = W29 at *
      generalize X28.heap.size = gS3 at *
      refine only_G 25 (by kernel_rfl) rfl (fun X30 hX K' hK' => ?_)
      replace NN := Lib.hid (Bgo NN.out hX)
      replace MS := Lib.hid (MnS.next MS.out hX)
      replace S3 := Lib.hid (blk_next hX S3.out)
      skip
      clear hX
      refine step_gapp tyN rfl _ _ rfl (w.heap.size + 1) v3 (l.take k) rfl (some ⟨gS3, 0, none⟩) 1 1 [r] rfl MS.out.o3 rfl (rd_own1 S3.out rfl rfl) (by rw [List.length_take]; omega) MS.out.sz ?_
      intro u3 w9 o9 g9 t9
      refine hK'.out _ _ (fun kk hk hS => GK.grown hS g9 (fun p9 hp => by have h9 : p9.2.1 = gx := (by simp only [List.mem_cons, List.not_mem_nil, or_false] at hp; rcases hp with rfl | rfl | rfl <;> rfl); rw [h9]; exact (MS.out.far l1).2.2)) ?_
      clear hK' K'
      try simp only [Act.put, zA, zB, zC]
      skip
      replace MS := Lib.hid (MS.out.app3 hlt (by rw [HRQ.out]; exact o9) g9)
      replace NN := Lib.hid MS.out.bl
      clear S3
      clear o9 g9 t9
      refine tG 26 (u1) (some 4) (GK.grow _) rfl (YieldsIf.toG (Or.inl ⟨by rfl, ?_⟩)) (GK.drop (by simp)) ?_
      ·intro X hX
       clear hX
       go_simp
      try simp only [Act.put, zA, zB, zC]
      refine tG 27 (u2) (some 5) (GK.grow _) rfl (YieldsIf.toG (Or.inl ⟨by rfl, ?_⟩)) (GK.drop (by simp)) ?_
      ·intro X hX
       clear hX
       go_simp
      try simp only [Act.put, zA, zB, zC]
      refine tG 28 (u3) (some 6) (GK.grow _) rfl (YieldsIf.toG (Or.inl ⟨by rfl, ?_⟩)) (GK.drop (by simp)) ?_
      ·intro X hX
       clear hX
       go_simp
      try simp only [Act.put, zA, zB, zC]
      refine done_G (by kernel_rfl) (fun X31 hX => ?_) _
      replace NN := Lib.hid (Bgo NN.out hX)
      replace MS := Lib.hid (MnS.next MS.out hX)
      clear hX
      go_wp2_with fail
      exact ⟨⟨k + 1, _, _, _, by omega, by go_num, rfl, rfl, rfl, MS⟩, by simp [intOf]; omega⟩
     ·intro X32 hX K' hK'
      replace NN := Lib.hid (Bgo NN.out hX)
      replace MS := Lib.hid (MnS.next MS.out hX)
      replace S2 := Lib.hid (blk_next hX S2.out)
      skip
      clear hX
      go_simp
      refine hK'.out _ _ (fun _ _ h => h.alloc _) ?_
      clear hK' K'
      try simp only [Act.put, zA, zB, zC]
      have HB := Lib.hid (Bal (Below.refl X32.heap.size X32) (.cells #[.int .i64 r.n] 3))
      have S3 : Hid ((X32.alloc (.cells #[.int .i64 r.n] 3)).heap[X32.heap.size]? = some (.cells #[.int .i64 r.n] 3)) := Lib.hid (blk_new X32 (.cells #[.int .i64 r.n] 3))
      replace NN := Lib.hid (Bgo NN.out HB.out)
      replace MS := Lib.hid (MnS.next MS.out HB.out)
      replace S2 := Lib.hid (blk_next HB.out S2.out)
      skip
      clear HB
      generalize X32.alloc (.cells #[.int .i64 r.n] 3) = W33 at *
      generalize X32.heap.size = gS3 at *
      refine only_G 17 (by kernel_rfl) rfl (fun X34 hX K' hK' => ?_)
      replace NN := Lib.hid (Bgo NN.out hX)
      replace MS := Lib.hid (MnS.next MS.out hX)
      replace S2 := Lib.hid (blk_next hX S2.out)
      replace S3 := Lib.hid (blk_next hX S3.out)
      skip
      clear hX
      refine step_gapp (tyF true) rfl _ _ rfl (w.heap.size + 1) v2 (l.take k) rfl (some ⟨gS2, 0, none⟩) 1 1 [r] rfl MS.out.o2 rfl (rd_own1 S2.out HF2.out rfl) (by rw [List.length_take]; omega) MS.out.sz ?_
      intro u2 w9 o9 g9 t9
      refine hK'.out _ _ (fun kk hk hS => GK.grown hS g9 (fun p9 hp => by have h9 : p9.2.1 = gx := (by simp only [List.mem_cons, List.not_mem_nil, or_false] at hp; rcases hp with rfl | rfl | rfl <;> rfl); rw [h9]; exact (MS.out.far l1).2.1)) ?_
      clear hK' K'
      try simp only [Act.put, zA, zB, zC]
      skip
      have TF := Lib.hid (fun (b : Nat) (cs : Array Value) (h : X34.heap[b]? = some (.cells cs 3)) => (g9.block b (blk_lt h) (fun e => by obtain ⟨-, cs', hc'⟩ := MS.out.o2.own e.symm; rw [h] at hc'; injection hc' with hc'; injection hc' with _ hc' _; exact absurd hc' (by decide))).trans h)
      replace MS := Lib.hid (MS.out.app2 hlt (by rw [HRQ.out]; exact o9) g9 t9)
      replace NN := Lib.hid MS.out.bl
      clear S2
      replace S3 := Lib.hid (TF.out _ _ S3.out)
      clear o9 g9 t9 TF
      refine only_G 25 (by kernel_rfl) rfl (fun X35 hX K' hK' => ?_)
      replace NN := Lib.hid (Bgo NN.out hX)
      replace MS := Lib.hid (MnS.next MS.out hX)
      replace S3 := Lib.hid (blk_next hX S3.out)
      skip
      clear hX
      refine step_gapp tyN rfl _ _ rfl (w.heap.size + 1) v3 (l.take k) rfl (some ⟨gS3, 0, none⟩) 1 1 [r] rfl MS.out.o3 rfl (rd_own1 S3.out rfl rfl) (by rw [List.length_take]; omega) MS.out.sz ?_
      intro u3 w9 o9 g9 t9
      refine hK'.out _ _ (fun kk hk hS => GK.grown hS g9 (fun p9 hp => by have h9 : p9.2.1 = gx := (by simp only [List.mem_cons, List.not_mem_nil, or_false] at hp; rcases hp with rfl | rfl | rfl <;> rfl); rw [h9]; exact (MS.out.far l1).2.2)) ?_
      clear hK' K'
      try simp only [Act.put, zA, zB, zC]
      skip
      replace MS := Lib.hid (MS.out.app3 hlt (by rw [HRQ.out]; exact o9) g9)
      replace NN := Lib.hid MS.out.bl
      clear S3
      clear o9 g9 t9
      refine tG 26 (u1) (some 4) (GK.grow _) rfl (YieldsIf.toG (Or.inl ⟨by rfl, ?_⟩)) (GK.drop (by simp)) ?_
      ·intro X hX
       clear hX
       go_simp
      try simp only [Act.put, zA, zB, zC]
      refine tG 27 (u2) (some 5) (GK.grow _) rfl (YieldsIf.toG (Or.inl ⟨by rfl, ?_⟩)) (GK.drop (by simp)) ?_
      ·intro X hX
       clear hX
       go_simp
      try simp only [Act.put, zA, zB, zC]
      refine tG 28 (u3) (some 6) (GK.grow _) rfl (YieldsIf.toG (Or.inl ⟨by rfl, ?_⟩)) (GK.drop (by simp)) ?_
      ·intro X hX
       clear hX
       go_simp
      try simp only [Act.put, zA, zB, zC]
      refine done_G (by kernel_rfl) (fun X36 hX => ?_) _
      replace NN := Lib.hid (Bgo NN.out hX)
      replace MS := Lib.hid (MnS.next MS.out hX)
      clear hX
      go_wp2_with fail
      exact ⟨⟨k + 1, _, _, _, by omega, by go_num, rfl, rfl, rfl, MS⟩, by simp [intOf]; omega⟩
    ·intro X37 hX K' hK'
     replace NN := Lib.hid (Bgo NN.out hX)
     replace MS := Lib.hid (MnS.next MS.out hX)
     skip
     clear hX
     go_simp
     refine hK'.out _ _ (fun _ _ h => h.alloc _) ?_
     clear hK' K'
     try simp only [Act.put, zA, zB, zC]
     have HB := Lib.hid (Bal (Below.refl X37.heap.size X37) (.cells #[.int .i64 r.n] 3))
     have S3 : Hid ((X37.alloc (.cells #[.int .i64 r.n] 3)).heap[X37.heap.size]? = some (.cells #[.int .i64 r.n] 3)) := Lib.hid (blk_new X37 (.cells #[.int .i64 r.n] 3))
     replace NN := Lib.hid (Bgo NN.out HB.out)
     replace MS := Lib.hid (MnS.next MS.out HB.out)
     skip
     clear HB
     generalize X37.alloc (.cells #[.int .i64 r.n] 3) = W38 at *
     generalize X37.heap.size = gS3 at *
     refine only_G 16 (by kernel_rfl) rfl (fun X39 hX K' hK' => ?_)
     replace NN := Lib.hid (Bgo NN.out hX)
     replace MS := Lib.hid (MnS.next MS.out hX)
     replace S3 := Lib.hid (blk_next hX S3.out)
     skip
     clear hX
     go_simp
     refine hK'.out _ _ (fun _ _ h => h.alloc _) ?_
     clear hK' K'
     try simp only [Act.put, zA, zB, zC]
     have HB := Lib.hid (Bal (Below.refl X39.heap.size X39) (.cells #[.int .i64 y1, .int .i64 y2] 80))
     have S2 : Hid ((X39.alloc (.cells #[.int .i64 y1, .int .i64 y2] 80)).heap[X39.heap.size]? = some (.cells #[.int .i64 y1, .int .i64 y2] 80)) := Lib.hid (blk_new X39 (.cells #[.int .i64 y1, .int .i64 y2] 80))
     replace NN := Lib.hid (Bgo NN.out HB.out)
     replace MS := Lib.hid (MnS.next MS.out HB.out)
     replace S3 := Lib.hid (blk_next HB.out S3.out)
     skip
     clear HB
     generalize X39.alloc (.cells #[.int .i64 y1, .int .i64 y2] 80) = W40 at *
     generalize X39.heap.size = gS2 at *
     refine only_G 17 (by kernel_rfl) rfl (fun X41 hX K' hK' => ?_)
     replace NN := Lib.hid (Bgo NN.out hX)
     replace MS := Lib.hid (MnS.next MS.out hX)
     replace S3 := Lib.hid (blk_next hX S3.out)
     replace S2 := Lib.hid (blk_next hX S2.out)
     skip
     clear hX
     refine step_gapp (tyF true) rfl _ _ rfl (w.heap.size + 1) v2 (l.take k) rfl (some ⟨gS2, 0, none⟩) 1 1 [r] rfl MS.out.o2 rfl (rd_own1 S2.out HF2.out rfl) (by rw [List.length_take]; omega) MS.out.sz ?_
     intro u2 w9 o9 g9 t9
     refine hK'.out _ _ (fun kk hk hS => GK.grown hS g9 (fun p9 hp => by have h9 : p9.2.1 = gx := (by simp only [List.mem_cons, List.not_mem_nil, or_false] at hp; rcases hp with rfl | rfl | rfl <;> rfl); rw [h9]; exact (MS.out.far l1).2.1)) ?_
     clear hK' K'
     try simp only [Act.put, zA, zB, zC]
     skip
     have TF := Lib.hid (fun (b : Nat) (cs : Array Value) (h : X41.heap[b]? = some (.cells cs 3)) => (g9.block b (blk_lt h) (fun e => by obtain ⟨-, cs', hc'⟩ := MS.out.o2.own e.symm; rw [h] at hc'; injection hc' with hc'; injection hc' with _ hc' _; exact absurd hc' (by decide))).trans h)
     replace MS := Lib.hid (MS.out.app2 hlt (by rw [HRQ.out]; exact o9) g9 t9)
     replace NN := Lib.hid MS.out.bl
     replace S3 := Lib.hid (TF.out _ _ S3.out)
     clear S2
     clear o9 g9 t9 TF
     refine only_G 25 (by kernel_rfl) rfl (fun X42 hX K' hK' => ?_)
     replace NN := Lib.hid (Bgo NN.out hX)
     replace MS := Lib.hid (MnS.next MS.out hX)
     replace S3 := Lib.hid (blk_next hX S3.out)
     skip
     clear hX
     refine step_gapp tyN rfl _ _ rfl (w.heap.size + 1) v3 (l.take k) rfl (some ⟨gS3, 0, none⟩) 1 1 [r] rfl MS.out.o3 rfl (rd_own1 S3.out rfl rfl) (by rw [List.length_take]; omega) MS.out.sz ?_
     intro u3 w9 o9 g9 t9
     refine hK'.out _ _ (fun kk hk hS => GK.grown hS g9 (fun p9 hp => by have h9 : p9.2.1 = gx := (by simp only [List.mem_cons, List.not_mem_nil, or_false] at hp; rcases hp with rfl | rfl | rfl <;> rfl); rw [h9]; exact (MS.out.far l1).2.2)) ?_
     clear hK' K'
     try simp only [Act.put, zA, zB, zC]
     skip
     replace MS := Lib.hid (MS.out.app3 hlt (by rw [HRQ.out]; exact o9) g9)
     replace NN := Lib.hid MS.out.bl
     clear S3
     clear o9 g9 t9
     refine tG 26 (u1) (some 4) (GK.grow _) rfl (YieldsIf.toG (Or.inl ⟨by rfl, ?_⟩)) (GK.drop (by simp)) ?_
     ·intro X hX
      clear hX
      go_simp
     try simp only [Act.put, zA, zB, zC]
     refine tG 27 (u2) (some 5) (GK.grow _) rfl (YieldsIf.toG (Or.inl ⟨by rfl, ?_⟩)) (GK.drop (by simp)) ?_
     ·intro X hX
      clear hX
      go_simp
     try simp only [Act.put, zA, zB, zC]
     refine tG 28 (u3) (some 6) (GK.grow _) rfl (YieldsIf.toG (Or.inl ⟨by rfl, ?_⟩)) (GK.drop (by simp)) ?_
     ·intro X hX
      clear hX
      go_simp
     try simp only [Act.put, zA, zB, zC]
     refine done_G (by kernel_rfl) (fun X43 hX => ?_) _
     replace NN := Lib.hid (Bgo NN.out hX)
     replace MS := Lib.hid (MnS.next MS.out hX)
     clear hX
     go_wp2_with fail
     exact ⟨⟨k + 1, _, _, _, by omega, by go_num, rfl, rfl, rfl, MS⟩, by simp [intOf]; omega⟩
   ·intro X44 hX K' hK'
    replace NN := Lib.hid (Bgo NN.out hX)
    replace MS := Lib.hid (MnS.next MS.out hX)
    replace X1 := Lib.hid (blk_next hX X1.out)
    replace S1 := Lib.hid (blk_next hX S1.out)
    replace HAL := Lib.hid (fun kx9 => GK.grow _ _ _ _ (HAL.out kx9) hX)
    clear hX
    go_simp
    refine hK'.out _ _ (fun _ _ h => h.alloc _) ?_
    clear hK' K'
    try simp only [Act.put, zA, zB, zC]
    have HB := Lib.hid (Bal (Below.refl X44.heap.size X44) (.cells #[.int .i64 r.n] 3))
    have S3 : Hid ((X44.alloc (.cells #[.int .i64 r.n] 3)).heap[X44.heap.size]? = some (.cells #[.int .i64 r.n] 3)) := Lib.hid (blk_new X44 (.cells #[.int .i64 r.n] 3))
    replace NN := Lib.hid (Bgo NN.out HB.out)
    replace MS := Lib.hid (MnS.next MS.out HB.out)
    replace X1 := Lib.hid (blk_next HB.out X1.out)
    replace S1 := Lib.hid (blk_next HB.out S1.out)
    replace HAL := Lib.hid (fun kx9 => GK.grow _ _ _ _ (HAL.out kx9) HB.out)
    clear HB
    generalize X44.alloc (.cells #[.int .i64 r.n] 3) = W45 at *
    generalize X44.heap.size = gS3 at *
    refine only_G 8 (by kernel_rfl) rfl (fun X46 hX K' hK' => ?_)
    replace NN := Lib.hid (Bgo NN.out hX)
    replace MS := Lib.hid (MnS.next MS.out hX)
    replace X1 := Lib.hid (blk_next hX X1.out)
    replace S1 := Lib.hid (blk_next hX S1.out)
    replace S3 := Lib.hid (blk_next hX S3.out)
    replace HAL := Lib.hid (fun kx9 => GK.grow _ _ _ _ (HAL.out kx9) hX)
    clear hX
    refine step_gapp (tyF false) rfl _ _ rfl (w.heap.size + 1) v1 (l.take k) rfl (some ⟨gS1, 0, none⟩) 1 1 [r] rfl MS.out.o1 rfl (rd_own1 S1.out HF1.out rfl) (by rw [List.length_take]; omega) MS.out.sz ?_
    intro u1 w9 o9 g9 t9
    refine hK'.out _ _ (fun kk hk hS => GK.grown hS g9 (fun p9 hp => by have h9 : p9.2.1 = gx := (by simp only [List.mem_cons, List.not_mem_nil, or_false] at hp; rcases hp with rfl | rfl | rfl <;> rfl); rw [h9]; exact (MS.out.far l1).1)) ?_
    clear hK' K'
    try simp only [Act.put, zA, zB, zC]
    clear HAL
    have TF := Lib.hid (fun (b : Nat) (cs : Array Value) (h : X46.heap[b]? = some (.cells cs 3)) => (g9.block b (blk_lt h) (fun e => by obtain ⟨-, cs', hc'⟩ := MS.out.o1.own e.symm; rw [h] at hc'; injection hc' with hc'; injection hc' with _ hc' _; exact absurd hc' (by decide))).trans h)
    replace MS := Lib.hid (MS.out.app1 hlt (by rw [HRQ.out]; exact o9) g9 t9)
    replace NN := Lib.hid MS.out.bl
    clear S1
    replace S3 := Lib.hid (TF.out _ _ S3.out)
    clear X1
    clear o9 g9 t9 TF
    have CFn : ∀ (args : Array Value) (W : World), Sem.run Try.prog (callFunc 42 args) W = .ok (.enter 42 args) W := fun _ _ => by kernel_rfl
    refine tG 15 (.agg #[.int .i64 y1, .int .i64 y2]) (some 66) (GK.grow _) rfl (yieldsG_call 42 #[.agg #[.int .i64 r.re, .int .i64 r.im, .int .i64 r.dn]] (by rfl) ?_ (fun X hS => CIM.out X)) (GK.drop (by simp)) ?_
    ·intro X hX
     clear hX
     go_simp
    clear CFn
    try simp only [Act.put, zA, zB, zC]
    refine only_G 16 (by kernel_rfl) rfl (fun X47 hX K' hK' => ?_)
    replace NN := Lib.hid (Bgo NN.out hX)
    replace MS := Lib.hid (MnS.next MS.out hX)
    replace S3 := Lib.hid (blk_next hX S3.out)
    skip
    clear hX
    go_simp
    refine hK'.out _ _ (fun _ _ h => h.alloc _) ?_
    clear hK' K'
    try simp only [Act.put, zA, zB, zC]
    have HB := Lib.hid (Bal (Below.refl X47.heap.size X47) (.cells #[.int .i64 y1, .int .i64 y2] 80))
    have S2 : Hid ((X47.alloc (.cells #[.int .i64 y1, .int .i64 y2] 80)).heap[X47.heap.size]? = some (.cells #[.int .i64 y1, .int .i64 y2] 80)) := Lib.hid (blk_new X47 (.cells #[.int .i64 y1, .int .i64 y2] 80))
    replace NN := Lib.hid (Bgo NN.out HB.out)
    replace MS := Lib.hid (MnS.next MS.out HB.out)
    replace S3 := Lib.hid (blk_next HB.out S3.out)
    skip
    clear HB
    generalize X47.alloc (.cells #[.int .i64 y1, .int .i64 y2] 80) = W48 at *
    generalize X47.heap.size = gS2 at *
    refine only_G 17 (by kernel_rfl) rfl (fun X49 hX K' hK' => ?_)
    replace NN := Lib.hid (Bgo NN.out hX)
    replace MS := Lib.hid (MnS.next MS.out hX)
    replace S3 := Lib.hid (blk_next hX S3.out)
    replace S2 := Lib.hid (blk_next hX S2.out)
    skip
    clear hX
    refine step_gapp (tyF true) rfl _ _ rfl (w.heap.size + 1) v2 (l.take k) rfl (some ⟨gS2, 0, none⟩) 1 1 [r] rfl MS.out.o2 rfl (rd_own1 S2.out HF2.out rfl) (by rw [List.length_take]; omega) MS.out.sz ?_
    intro u2 w9 o9 g9 t9
    refine hK'.out _ _ (fun kk hk hS => GK.grown hS g9 (fun p9 hp => by have h9 : p9.2.1 = gx := (by simp only [List.mem_cons, List.not_mem_nil, or_false] at hp; rcases hp with rfl | rfl | rfl <;> rfl); rw [h9]; exact (MS.out.far l1).2.1)) ?_
    clear hK' K'
    try simp only [Act.put, zA, zB, zC]
    skip
    have TF := Lib.hid (fun (b : Nat) (cs : Array Value) (h : X49.heap[b]? = some (.cells cs 3)) => (g9.block b (blk_lt h) (fun e => by obtain ⟨-, cs', hc'⟩ := MS.out.o2.own e.symm; rw [h] at hc'; injection hc' with hc'; injection hc' with _ hc' _; exact absurd hc' (by decide))).trans h)
    replace MS := Lib.hid (MS.out.app2 hlt (by rw [HRQ.out]; exact o9) g9 t9)
    replace NN := Lib.hid MS.out.bl
    replace S3 := Lib.hid (TF.out _ _ S3.out)
    clear S2
    clear o9 g9 t9 TF
    refine only_G 25 (by kernel_rfl) rfl (fun X50 hX K' hK' => ?_)
    replace NN := Lib.hid (Bgo NN.out hX)
    replace MS := Lib.hid (MnS.next MS.out hX)
    replace S3 := Lib.hid (blk_next hX S3.out)
    skip
    clear hX
    refine step_gapp tyN rfl _ _ rfl (w.heap.size + 1) v3 (l.take k) rfl (some ⟨gS3, 0, none⟩) 1 1 [r] rfl MS.out.o3 rfl (rd_own1 S3.out rfl rfl) (by rw [List.length_take]; omega) MS.out.sz ?_
    intro u3 w9 o9 g9 t9
    refine hK'.out _ _ (fun kk hk hS => GK.grown hS g9 (fun p9 hp => by have h9 : p9.2.1 = gx := (by simp only [List.mem_cons, List.not_mem_nil, or_false] at hp; rcases hp with rfl | rfl | rfl <;> rfl); rw [h9]; exact (MS.out.far l1).2.2)) ?_
    clear hK' K'
    try simp only [Act.put, zA, zB, zC]
    skip
    replace MS := Lib.hid (MS.out.app3 hlt (by rw [HRQ.out]; exact o9) g9)
    replace NN := Lib.hid MS.out.bl
    clear S3
    clear o9 g9 t9
    refine tG 26 (u1) (some 4) (GK.grow _) rfl (YieldsIf.toG (Or.inl ⟨by rfl, ?_⟩)) (GK.drop (by simp)) ?_
    ·intro X hX
     clear hX
     go_simp
    try simp only [Act.put, zA, zB, zC]
    refine tG 27 (u2) (some 5) (GK.grow _) rfl (YieldsIf.toG (Or.inl ⟨by rfl, ?_⟩)) (GK.drop (by simp)) ?_
    ·intro X hX
     clear hX
     go_simp
    try simp only [Act.put, zA, zB, zC]
    refine tG 28 (u3) (some 6) (GK.grow _) rfl (YieldsIf.toG (Or.inl ⟨by rfl, ?_⟩)) (GK.drop (by simp)) ?_
    ·intro X hX
     clear hX
     go_simp
    try simp only [Act.put, zA, zB, zC]
    refine done_G (by kernel_rfl) (fun X51 hX => ?_) _
    replace NN := Lib.hid (Bgo NN.out hX)
    replace MS := Lib.hid (MnS.next MS.out hX)
    clear hX
    go_wp2_with fail
    exact ⟨⟨k + 1, _, _, _, by omega, by go_num, rfl, rfl, rfl, MS⟩, by simp [intOf]; omega⟩
  ·intro X52 hX K' hK'
   replace NN := Lib.hid (Bgo NN.out hX)
   replace MS := Lib.hid (MnS.next MS.out hX)
   replace X1 := Lib.hid (blk_next hX X1.out)
   replace HAL := Lib.hid (fun kx9 => GK.grow _ _ _ _ (HAL.out kx9) hX)
   clear hX
   go_simp
   refine hK'.out _ _ (fun _ _ h => h.alloc _) ?_
   clear hK' K'
   try simp only [Act.put, zA, zB, zC]
   have HB := Lib.hid (Bal (Below.refl X52.heap.size X52) (.cells #[.int .i64 r.n] 3))
   have S3 : Hid ((X52.alloc (.cells #[.int .i64 r.n] 3)).heap[X52.heap.size]? = some (.cells #[.int .i64 r.n] 3)) := Lib.hid (blk_new X52 (.cells #[.int .i64 r.n] 3))
   replace NN := Lib.hid (Bgo NN.out HB.out)
   replace MS := Lib.hid (MnS.next MS.out HB.out)
   replace X1 := Lib.hid (blk_next HB.out X1.out)
   replace HAL := Lib.hid (fun kx9 => GK.grow _ _ _ _ (HAL.out kx9) HB.out)
   clear HB
   generalize X52.alloc (.cells #[.int .i64 r.n] 3) = W53 at *
   generalize X52.heap.size = gS3 at *
   refine only_G 7 (by kernel_rfl) rfl (fun X54 hX K' hK' => ?_)
   replace NN := Lib.hid (Bgo NN.out hX)
   replace MS := Lib.hid (MnS.next MS.out hX)
   replace X1 := Lib.hid (blk_next hX X1.out)
   replace S3 := Lib.hid (blk_next hX S3.out)
   replace HAL := Lib.hid (fun kx9 => GK.grow _ _ _ _ (HAL.out kx9) hX)
   clear hX
   go_simp
   refine hK'.out _ _ (fun _ _ h => h.alloc _) ?_
   clear hK' K'
   try simp only [Act.put, zA, zB, zC]
   have HB := Lib.hid (Bal (Below.refl X54.heap.size X54) (.cells #[.int .i64 x1, .int .i64 x2] 80))
   have S1 : Hid ((X54.alloc (.cells #[.int .i64 x1, .int .i64 x2] 80)).heap[X54.heap.size]? = some (.cells #[.int .i64 x1, .int .i64 x2] 80)) := Lib.hid (blk_new X54 (.cells #[.int .i64 x1, .int .i64 x2] 80))
   replace NN := Lib.hid (Bgo NN.out HB.out)
   replace MS := Lib.hid (MnS.next MS.out HB.out)
   replace X1 := Lib.hid (blk_next HB.out X1.out)
   replace S3 := Lib.hid (blk_next HB.out S3.out)
   replace HAL := Lib.hid (fun kx9 => GK.grow _ _ _ _ (HAL.out kx9) HB.out)
   clear HB
   generalize X54.alloc (.cells #[.int .i64 x1, .int .i64 x2] 80) = W55 at *
   generalize X54.heap.size = gS1 at *
   refine only_G 8 (by kernel_rfl) rfl (fun X56 hX K' hK' => ?_)
   replace NN := Lib.hid (Bgo NN.out hX)
   replace MS := Lib.hid (MnS.next MS.out hX)
   replace X1 := Lib.hid (blk_next hX X1.out)
   replace S3 := Lib.hid (blk_next hX S3.out)
   replace S1 := Lib.hid (blk_next hX S1.out)
   replace HAL := Lib.hid (fun kx9 => GK.grow _ _ _ _ (HAL.out kx9) hX)
   clear hX
   refine step_gapp (tyF false) rfl _ _ rfl (w.heap.size + 1) v1 (l.take k) rfl (some ⟨gS1, 0, none⟩) 1 1 [r] rfl MS.out.o1 rfl (rd_own1 S1.out HF1.out rfl) (by rw [List.length_take]; omega) MS.out.sz ?_
   intro u1 w9 o9 g9 t9
   refine hK'.out _ _ (fun kk hk hS => GK.grown hS g9 (fun p9 hp => by have h9 : p9.2.1 = gx := (by simp only [List.mem_cons, List.not_mem_nil, or_false] at hp; rcases hp with rfl | rfl | rfl <;> rfl); rw [h9]; exact (MS.out.far l1).1)) ?_
   clear hK' K'
   try simp only [Act.put, zA, zB, zC]
   clear HAL
   have TF := Lib.hid (fun (b : Nat) (cs : Array Value) (h : X56.heap[b]? = some (.cells cs 3)) => (g9.block b (blk_lt h) (fun e => by obtain ⟨-, cs', hc'⟩ := MS.out.o1.own e.symm; rw [h] at hc'; injection hc' with hc'; injection hc' with _ hc' _; exact absurd hc' (by decide))).trans h)
   replace MS := Lib.hid (MS.out.app1 hlt (by rw [HRQ.out]; exact o9) g9 t9)
   replace NN := Lib.hid MS.out.bl
   replace S3 := Lib.hid (TF.out _ _ S3.out)
   clear S1
   clear X1
   clear o9 g9 t9 TF
   have CFn : ∀ (args : Array Value) (W : World), Sem.run Try.prog (callFunc 42 args) W = .ok (.enter 42 args) W := fun _ _ => by kernel_rfl
   refine tG 15 (.agg #[.int .i64 y1, .int .i64 y2]) (some 66) (GK.grow _) rfl (yieldsG_call 42 #[.agg #[.int .i64 r.re, .int .i64 r.im, .int .i64 r.dn]] (by rfl) ?_ (fun X hS => CIM.out X)) (GK.drop (by simp)) ?_
   ·intro X hX
    clear hX
    go_simp
   clear CFn
   try simp only [Act.put, zA, zB, zC]
   refine only_G 16 (by kernel_rfl) rfl (fun X57 hX K' hK' => ?_)
   replace NN := Lib.hid (Bgo NN.out hX)
   replace MS := Lib.hid (MnS.next MS.out hX)
   replace S3 := Lib.hid (blk_next hX S3.out)
   skip
   clear hX
   go_simp
   refine hK'.out _ _ (fun _ _ h => h.alloc _) ?_
   clear hK' K'
   try simp only [Act.put, zA, zB, zC]
   have HB := Lib.hid (Bal (Below.refl X57.heap.size X57) (.cells #[.int .i64 y1, .int .i64 y2] 80))
   have S2 : Hid ((X57.alloc (.cells #[.int .i64 y1, .int .i64 y2] 80)).heap[X57.heap.size]? = some (.cells #[.int .i64 y1, .int .i64 y2] 80)) := Lib.hid (blk_new X57 (.cells #[.int .i64 y1, .int .i64 y2] 80))
   replace NN := Lib.hid (Bgo NN.out HB.out)
   replace MS := Lib.hid (MnS.next MS.out HB.out)
   replace S3 := Lib.hid (blk_next HB.out S3.out)
   skip
   clear HB
   generalize X57.alloc (.cells #[.int .i64 y1, .int .i64 y2] 80) = W58 at *
   generalize X57.heap.size = gS2 at *
   refine only_G 17 (by kernel_rfl) rfl (fun X59 hX K' hK' => ?_)
   replace NN := Lib.hid (Bgo NN.out hX)
   replace MS := Lib.hid (MnS.next MS.out hX)
   replace S3 := Lib.hid (blk_next hX S3.out)
   replace S2 := Lib.hid (blk_next hX S2.out)
   skip
   clear hX
   refine step_gapp (tyF true) rfl _ _ rfl (w.heap.size + 1) v2 (l.take k) rfl (some ⟨gS2, 0, none⟩) 1 1 [r] rfl MS.out.o2 rfl (rd_own1 S2.out HF2.out rfl) (by rw [List.length_take]; omega) MS.out.sz ?_
   intro u2 w9 o9 g9 t9
   refine hK'.out _ _ (fun kk hk hS => GK.grown hS g9 (fun p9 hp => by have h9 : p9.2.1 = gx := (by simp only [List.mem_cons, List.not_mem_nil, or_false] at hp; rcases hp with rfl | rfl | rfl <;> rfl); rw [h9]; exact (MS.out.far l1).2.1)) ?_
   clear hK' K'
   try simp only [Act.put, zA, zB, zC]
   skip
   have TF := Lib.hid (fun (b : Nat) (cs : Array Value) (h : X59.heap[b]? = some (.cells cs 3)) => (g9.block b (blk_lt h) (fun e => by obtain ⟨-, cs', hc'⟩ := MS.out.o2.own e.symm; rw [h] at hc'; injection hc' with hc'; injection hc' with _ hc' _; exact absurd hc' (by decide))).trans h)
   replace MS := Lib.hid (MS.out.app2 hlt (by rw [HRQ.out]; exact o9) g9 t9)
   replace NN := Lib.hid MS.out.bl
   replace S3 := Lib.hid (TF.out _ _ S3.out)
   clear S2
   clear o9 g9 t9 TF
   refine only_G 25 (by kernel_rfl) rfl (fun X60 hX K' hK' => ?_)
   replace NN := Lib.hid (Bgo NN.out hX)
   replace MS := Lib.hid (MnS.next MS.out hX)
   replace S3 := Lib.hid (blk_next hX S3.out)
   skip
   clear hX
   refine step_gapp tyN rfl _ _ rfl (w.heap.size + 1) v3 (l.take k) rfl (some ⟨gS3, 0, none⟩) 1 1 [r] rfl MS.out.o3 rfl (rd_own1 S3.out rfl rfl) (by rw [List.length_take]; omega) MS.out.sz ?_
   intro u3 w9 o9 g9 t9
   refine hK'.out _ _ (fun kk hk hS => GK.grown hS g9 (fun p9 hp => by have h9 : p9.2.1 = gx := (by simp only [List.mem_cons, List.not_mem_nil, or_false] at hp; rcases hp with rfl | rfl | rfl <;> rfl); rw [h9]; exact (MS.out.far l1).2.2)) ?_
   clear hK' K'
   try simp only [Act.put, zA, zB, zC]
   skip
   replace MS := Lib.hid (MS.out.app3 hlt (by rw [HRQ.out]; exact o9) g9)
   replace NN := Lib.hid MS.out.bl
   clear S3
   clear o9 g9 t9
   refine tG 26 (u1) (some 4) (GK.grow _) rfl (YieldsIf.toG (Or.inl ⟨by rfl, ?_⟩)) (GK.drop (by simp)) ?_
   ·intro X hX
    clear hX
    go_simp
   try simp only [Act.put, zA, zB, zC]
   refine tG 27 (u2) (some 5) (GK.grow _) rfl (YieldsIf.toG (Or.inl ⟨by rfl, ?_⟩)) (GK.drop (by simp)) ?_
   ·intro X hX
    clear hX
    go_simp
   try simp only [Act.put, zA, zB, zC]
   refine tG 28 (u3) (some 6) (GK.grow _) rfl (YieldsIf.toG (Or.inl ⟨by rfl, ?_⟩)) (GK.drop (by simp)) ?_
   ·intro X hX
    clear hX
    go_simp
   try simp only [Act.put, zA, zB, zC]
   refine done_G (by kernel_rfl) (fun X61 hX => ?_) _
   replace NN := Lib.hid (Bgo NN.out hX)
   replace MS := Lib.hid (MnS.next MS.out hX)
   clear hX
   go_wp2_with fail
   exact ⟨⟨k + 1, _, _, _, by omega, by go_num, rfl, rfl, rfl, MS⟩, by simp [intOf]; omega⟩
end Go.Proofs.Ytbbnkclajpaghaa
