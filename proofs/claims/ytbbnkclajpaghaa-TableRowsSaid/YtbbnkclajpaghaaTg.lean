/- Contract of table.Check. -/
import Derived.Test.YtbbnkclajpaghaaTf
import Derived.OpenShut
import Derived.BigGuardIn
import Derived.Laws.CopyOwn
import Derived.BigGuardPartIn
namespace Go.Proofs.Ytbbnkclajpaghaa
open Go.ChangeShapes Go.WideShapes Go.ChangeAt Go.RowKit
set_option linter.unusedVariables false
set_option linter.unusedSimpArgs false
attribute [local go_sem] Oper.semAt_some
theorem own_blk {B : Nat} {β : Type} (b : β → Nat) (cs : β → Array Value) (T : TypeId) : OwnFrom B (fun k W => W.heap[b k]? = some (.cells (cs k) T)) := by
  intro s W W' row h hg hr
  refine (hg.block (b s) (blk_lt h) fun e => ?_).trans h
  obtain ⟨_, o, ho, hc⟩ := hr (b s) e.symm
  rw [h] at ho
  cases ho
  cases hc
theorem own_pure {B : Nat} {β : Type} (p : β → Prop) : OwnFrom B (fun k (_ : World) => p k) := fun _ _ _ _ h _ _ => h
theorem own_size {B : Nat} {β : Type} (n : Nat) : OwnFrom B (fun (_ : β) W => n ≤ W.heap.size) := fun _ _ _ _ h hg _ => Nat.le_trans h hg.size
theorem own_or {B : Nat} {β : Type} {I J : β → World → Prop} (h : OwnFrom B I) (h' : OwnFrom B J) : OwnFrom B (fun k W => I k W ∨ J k W) := fun s W W' row hs hg hr => hs.elim (fun x => .inl (h s W W' row x hg hr)) (fun x => .inr (h' s W W' row x hg hr))
theorem own_ex {B : Nat} {β γ : Type} {I : γ → β → World → Prop} (h : ∀ x, OwnFrom B (I x)) : OwnFrom B (fun k W => ∃ x, I x k W) := fun s W W' row ⟨x, hx⟩ hg hr => ⟨x, h x s W W' row hx hg hr⟩
/- the marks that a loop leaves among the deferred calls: the function's end -/
theorem put_blk {W : World} {D b : Nat} {o o' : Obj} (h : W.heap[b]? = some o) (hne : b ≠ D) : (W.putObj D o').heap[b]? = some o := (World.putObj_heap_other hne).trans h
theorem put_below {B : Nat} {w W : World} {D : Nat} {o o' : Obj} (h : Below B w W) (hD : B ≤ D) (hw : B ≤ w.heap.size) (ho : W.heap[D]? = some o) : Below B w (W.putObj D o') :=
  h.grown (grownBy_putObj' W D o') (Nat.le_trans hw h.size) (fun k e => by cases e; exact hD)
def lastR (l : List Vr) (k : Nat) : Vr := if k = 0 then zvr else rowAt l (k - 1)
theorem below_mid {n : Nat} {w W V : World} (h : Below n w W) (k : Below n w V) (hs : W.heap.size ≤ V.heap.size) : Below n W V := ⟨k.os.trans h.os.symm, k.tape.trans h.tape.symm, k.output.trans h.output.symm, hs, fun b hb => (k.block b hb).trans (h.block b hb).symm⟩
theorem keep_row {B : Nat} {W V : World} (h : KeepsFrom B W V) (g : Nat) (cs : Array Value) : KeepsFrom B W (V.setRow g cs) :=
  h.trans ⟨by simp, fun k o _ hk ho => by
    by_cases e : k = g
    · subst e
      obtain ⟨hlt, hk'⟩ := Array.getElem?_eq_some_iff.1 hk
      show (V.heap.modify k _)[k]? = some o
      rw [Array.getElem?_eq_getElem (by rw [Array.size_modify]; exact hlt), Array.getElem_modify_self, hk']
      cases o <;> first | rfl | (simp [Obj.isCells] at ho)
    · exact (setRow_other V g k cs e).trans hk⟩
theorem wpListIn_store_row {F : Fence} {n : Nat} {P : Program} {ops : Array Oper} {rest : List Oper} {o : Oper} {a : Act} {w : World} {Q : Exit → Act → World → Prop} (hgd : o.guard = none) (ty : TypeId) (x y : Operand) (ho : o.op = .store ty x y)
    (g : Nat) (cells : Array Value) (hx : a.eval x = .pointer (some ⟨g, 0, none⟩)) (hy : a.eval y = .agg cells)
    (t : TypeId) (old : Array Value) (hg : w.heap[g]? = some (.cells old t (0, 0))) (hi : (P.info? ty).map (·.size) = some cells.size)
    (hold : old.size = cells.size) (h1 : cells.all (·.oneCell') = true)
    (h : wpListIn F n P ops Q rest (a.put o.dst undef) (w.setRow g cells)) : wpListIn F n P ops Q (o :: rest) a w := by
  refine wpListIn_plain hgd fun K hK => ?_
  unfold Oper.wpIn
  refine ⟨by simp [Oper.about, ho], ?_⟩
  rw [Oper.semAt_plain F _ _ (by rw [ho]; intro c hc; cases hc)]
  simp only [execOp, ho, hx, hy, Instr.storeAt, Instr.sureAddr, Sem.run_bind, Sem.run_pure, Result.andThen_ok, run_storeVar_row w g t ty old cells hg hi hold h1]
  exact hK _ _ h
theorem no_bool {b : Bool} (h : some undef = some (Value.bool b)) : False := by simp [undef] at h
theorem cmpR_ge {s r : Vr} (hs : rowB s = true) (hr : rowB r = true) : decide (0 ≤ cmpR s r) = !decide (vkey s < vkey r) := by
  rw [cmpR_key hs hr]
  by_cases h : vkey s < vkey r
  · rw [decide_eq_true h, decide_eq_false (fun hh => by have := cmpI_ge.1 hh; omega)]; rfl
  · rw [decide_eq_false h, decide_eq_true (cmpI_ge.2 (by omega))]; rfl
theorem keep_set {B : Nat} {W V : World} (h : KeepsFrom B W V) (b off : Nat) (v : Value) : KeepsFrom B W (V.setCell ⟨b, off, none⟩ v) := h.trans ((KeepsOthers.setCell _ _ _).from _)
theorem lastR_succ (l : List Vr) (k : Nat) : lastR l (k + 1) = rowAt l k := rfl
theorem good_take {l : List Vr} {k : Nat} (hk : k < l.length) (hg : goodB (l.take k) = true) : goodB (l.take (k + 1)) = (rowB (rowAt l k) && (decide (k = 0) || decide (vkey (lastR l k) < vkey (rowAt l k)))) := by
  rw [List.take_succ_eq_append_getElem hk, ← rowAt_lt hk]
  unfold goodB at hg ⊢
  rw [goodF_append, hg]
  cases k with
  | zero => simp [goodF]
  | succ k =>
    have e : (l.take (k + 1)).getLast? = some (lastR l (k + 1)) := by
      rw [List.take_succ_eq_append_getElem (by omega), List.getLast?_concat, lastR_succ, rowAt_lt (by omega)]
    rw [e]
    simp [goodF]
theorem good_last {l : List Vr} {k : Nat} (hk : k ≤ l.length) (hg : goodB (l.take k) = true) (h0 : 0 < k) : rowB (lastR l k) = true := by
  cases k with
  | zero => omega
  | succ k =>
    rw [lastR_succ, rowAt_lt (by omega)]
    exact goodF_row hg _ (List.mem_take_iff_getElem.2 ⟨k, by omega, rfl⟩)
theorem good_prefix {l : List Vr} (k : Nat) (h : goodB (l.take k) = false) : goodB l = false := by
  cases hg : goodB l
  · rfl
  · rw [← List.take_append_drop k l] at hg
    unfold goodB at hg h
    rw [goodF_append, Bool.and_eq_true] at hg
    rw [hg.1] at h
    cases h

set_option maxRecDepth 100000 in
set_option maxHeartbeats 4000000 in
theorem chk_calls {A : Option Addr} {c : Nat} {l : List Vr} {w : World} (hl : RT w A l) (hA : ∀ b off, A = some ⟨b, off, none⟩ → b < w.heap.size) (hc : l.length ≤ c) (hc' : c ≤ 9223372036854775807) : Calls Try.prog 13 #[.slice A l.length c] w fun e w' =>
    e = .returned (.int .i64 (chkE l)) ∧ Below w.heap.size w w' := by
  by_cases h2 : 200 < l.length
  · have FV : Hid (chkE l = 4) := Lib.hid (by unfold chkE; rw [if_pos h2])
    generalize chkE l = v at *
    refine (callsIn_wide (n := 0)).1 ?_
    refine callsIn_of_wp_marks Try.func13 rfl trivial ?_ rfl
    simp only [Try.ntmps13, List.size_toArray, List.length_cons, List.length_nil, Nat.reduceAdd, Nat.reduceSub, Array.replicate_succ, Array.replicate_zero, List.push_toArray, List.append_toArray, List.nil_append, List.cons_append]
    gi_wp2
    exact ⟨_, by simp [results, Try.results13, go_sem], ret_int FV.out.symm, Bal (Below.refl _ _) _⟩
  have FV : Hid (chkE l = if goodB l then 0 else 8) := Lib.hid (by unfold chkE; rw [if_neg h2])
  generalize chkE l = v at *
  refine (callsIn_wide (n := 0)).1 ?_
  refine callsIn_of_wp_marks Try.func13 rfl trivial ?_ rfl
  simp only [Try.ntmps13, List.size_toArray, List.length_cons, List.length_nil, Nat.reduceAdd, Nat.reduceSub, Array.replicate_succ, Array.replicate_zero, List.push_toArray, List.append_toArray, List.nil_append, List.cons_append]
  gi_wp2_with fail
  refine ⟨trivial, rfl, (callsIn_wide.2 (rows_calls A _ c _)).mono ?_⟩
  rintro e w1 ⟨rfl, rfl⟩
  gi_wp2_with fail
  have NN : Hid (Below w.heap.size w (((w.alloc (.cells #[.int .i64 0] 34)).alloc (.cells #[.int .i64 0, .int .i64 0, .int .i64 0, .int .i64 0, .int .i64 0, .int .i64 0, .int .i64 0, .int .i64 0] 48)).alloc (.cells #[.slice A l.length c] 22))) := Lib.hid (Bal (Bal (Bal (Below.refl _ _) _) _) _)
  have SZ : Hid ((((w.alloc (.cells #[.int .i64 0] 34)).alloc (.cells #[.int .i64 0, .int .i64 0, .int .i64 0, .int .i64 0, .int .i64 0, .int .i64 0, .int .i64 0, .int .i64 0] 48)).alloc (.cells #[.slice A l.length c] 22)).heap.size = w.heap.size + 3) := Lib.hid (by simp)
  have VR : Hid ((((w.alloc (.cells #[.int .i64 0] 34)).alloc (.cells #[.int .i64 0, .int .i64 0, .int .i64 0, .int .i64 0, .int .i64 0, .int .i64 0, .int .i64 0, .int .i64 0] 48)).alloc (.cells #[.slice A l.length c] 22)).heap[w.heap.size]? = some (.cells #[.int .i64 0] 34)) := Lib.hid (blk_alloc (blk_alloc (blk_new w _) _) _)
  have VL : Hid ((((w.alloc (.cells #[.int .i64 0] 34)).alloc (.cells #[.int .i64 0, .int .i64 0, .int .i64 0, .int .i64 0, .int .i64 0, .int .i64 0, .int .i64 0, .int .i64 0] 48)).alloc (.cells #[.slice A l.length c] 22)).heap[w.heap.size + 1]? = some (.cells #[.int .i64 0, .int .i64 0, .int .i64 0, .int .i64 0, .int .i64 0, .int .i64 0, .int .i64 0, .int .i64 0] 48)) := Lib.hid (blk_alloc (blk_at _ (by simp)) _)
  have VT : Hid ((((w.alloc (.cells #[.int .i64 0] 34)).alloc (.cells #[.int .i64 0, .int .i64 0, .int .i64 0, .int .i64 0, .int .i64 0, .int .i64 0, .int .i64 0, .int .i64 0] 48)).alloc (.cells #[.slice A l.length c] 22)).heap[w.heap.size + 1 + 1]? = some (.cells #[.slice A l.length c] 22)) := Lib.hid (blk_at _ (by simp))
  generalize (((w.alloc (.cells #[.int .i64 0] 34)).alloc (.cells #[.int .i64 0, .int .i64 0, .int .i64 0, .int .i64 0, .int .i64 0, .int .i64 0, .int .i64 0, .int .i64 0] 48)).alloc (.cells #[.slice A l.length c] 22)) = W0 at *
  refine range_n 34 #[.pointer (some ⟨w.heap.size + 1 + 1, 0, none⟩)] rfl (enters_of Try.func34 (by kernel_rfl) rfl) (encR l) w.heap.size l.length
    (rows_seq (hl.next NN.out) hA (by omega) (by have := SZ.out; omega) VT.out) (by have := SZ.out; omega) (fun _ => rfl)
    (fun k W => (W.heap[w.heap.size]? = some (.cells #[.int .i64 0] 34)) ∧ (W.heap[w.heap.size + 1]? = some (.cells #[.int .i64 (lastR l k).t, .int .i64 (lastR l k).c, .int .i64 (lastR l k).i, .int .i64 (lastR l k).j, .int .i64 (lastR l k).re, .int .i64 (lastR l k).im, .int .i64 (lastR l k).dn, .int .i64 (lastR l k).n] 48)) ∧ (Below w.heap.size w W) ∧ (w.heap.size + 3 ≤ W.heap.size) ∧ (goodB (l.take k) = true))
    (fun cd k W => ((cd = .ret) ∧ (goodB l = false) ∧ (W.heap[w.heap.size]? = some (.cells #[.int .i64 8] 34)) ∧ (Below w.heap.size w W)))
    (fun k a' W => ∃ Bx : Nat, (a' = { tmps := #[.slice A l.length c, undef, .pointer (some ⟨w.heap.size, 0, none⟩), .pointer (some ⟨w.heap.size + 1, 0, none⟩), .int .i64 (k : Int), .pointer (some ⟨Bx, 0, none⟩), .slice A l.length c, .int .i64 (l.length : Int), .bool (decide ((200 : Int) < (l.length : Int))), .slice A l.length c, .func (.func 34) #[] #[.pointer (some ⟨w.heap.size + 1 + 1, 0, none⟩)], .int .i64 (k : Int), Rv (rowAt l k), undef, undef, undef, undef, undef, undef, undef, undef, undef, undef, undef, undef, undef, undef], defers := [] }) ∧ (w.heap.size + 3 ≤ Bx) ∧ (W.heap[Bx]? = some (.cells #[.int .i64 (rowAt l k).t, .int .i64 (rowAt l k).c, .int .i64 (rowAt l k).i, .int .i64 (rowAt l k).j, .int .i64 (rowAt l k).re, .int .i64 (rowAt l k).im, .int .i64 (rowAt l k).dn, .int .i64 (rowAt l k).n] 48)) ∧ (W.heap[w.heap.size]? = some (.cells #[.int .i64 0] 34)) ∧ (W.heap[w.heap.size + 1]? = some (.cells #[.int .i64 (lastR l k).t, .int .i64 (lastR l k).c, .int .i64 (lastR l k).i, .int .i64 (lastR l k).j, .int .i64 (lastR l k).re, .int .i64 (lastR l k).im, .int .i64 (lastR l k).dn, .int .i64 (lastR l k).n] 48)) ∧ (Below w.heap.size w W) ∧ (w.heap.size + 3 ≤ W.heap.size) ∧ (goodB (l.take k) = true))
    ((own_blk _ _ _).and ((own_blk _ _ _).and ((ownFrom_below (Nat.le_refl _) (by have := SZ.out; omega)).and ((own_size _).and (own_pure _)))))
    (fun _ => ((own_pure _).and ((own_pure _).and ((own_blk _ _ _).and (ownFrom_below (Nat.le_refl _) (by have := SZ.out; omega))))))
    (fun _ => own_ex fun _ => ((own_pure _).and ((own_pure _).and ((own_blk _ _ _).and ((own_blk _ _ _).and ((own_blk _ _ _).and ((ownFrom_below (Nat.le_refl _) (by have := SZ.out; omega)).and ((own_size _).and (own_pure _)))))))))
    ⟨VR.out, VL.out, NN.out, (by have := SZ.out; omega), rfl⟩ ?assign ?body ?done ?stop
  case assign =>
    rintro lp k W K ⟨v1, v2, nn, sz, hg⟩ hlt hK
    gi_wp2
    exact hK _ _ (keeps_of_below (Bal (Below.refl _ _) _)) ((Below.refl _ W).alloc nn.size _) ⟨W.heap.size, rfl, sz, blk_new W _, blk_alloc v1 _, blk_alloc v2 _, Bal nn _, by rw [World.size_alloc]; omega, hg⟩
  case body =>
    rintro lp k a' W ⟨Bx, rfl, lx, vx, v1, v2, nn, sz, hg⟩ hlt
    have HVC := Lib.hid (rowvalid_calls (rowAt l k))
    have HCC : Hid (∀ W : World, Calls Try.prog 19 #[Rv (lastR l k), Rv (rowAt l k)] W fun e w' => e = .returned (.int .i64 (cmpR (lastR l k) (rowAt l k))) ∧ Below W.heap.size W w') := Lib.hid (compare_calls _ _)
    have GT := good_take hlt hg
    have GL := fun h0 => good_last (by omega) hg h0
    have HGT := Lib.hid GT
    have HGL := Lib.hid GL
    have HG := Lib.hid hg
    have BW := Lib.hid (Below.refl W.heap.size W)
    clear GT GL hg
    generalize hr : rowAt l k = r at *
    generalize hs : lastR l k = s at *
    have LX := Lib.hid lx
    have NN := Lib.hid nn
    have KF := Lib.hid (KeepsFrom.refl W0.heap.size W)
    have VR := Lib.hid v1
    have VL := Lib.hid v2
    have VX := Lib.hid vx
    clear v1 v2 vx lx
    have c_VX_0 := blk_cell VX.out 0 _ rfl
    have f_VX_0 := blk_frozen VX.out 0
    have c_VX_1 := blk_cell VX.out 1 _ rfl
    have f_VX_1 := blk_frozen VX.out 1
    have c_VX_2 := blk_cell VX.out 2 _ rfl
    have f_VX_2 := blk_frozen VX.out 2
    have c_VX_3 := blk_cell VX.out 3 _ rfl
    have f_VX_3 := blk_frozen VX.out 3
    have c_VX_4 := blk_cell VX.out 4 _ rfl
    have f_VX_4 := blk_frozen VX.out 4
    have c_VX_5 := blk_cell VX.out 5 _ rfl
    have f_VX_5 := blk_frozen VX.out 5
    have c_VX_6 := blk_cell VX.out 6 _ rfl
    have f_VX_6 := blk_frozen VX.out 6
    have c_VX_7 := blk_cell VX.out 7 _ rfl
    have f_VX_7 := blk_frozen VX.out 7
    have l_VX := blk_lt VX.out
    gi_wp2_with fail
    refine ⟨trivial, rfl, (CallsIn.inRound lp ((callsIn_wide (n := 0)).2 (HVC.out _))).mono ?_⟩
    rintro e w1 ⟨rfl, hb⟩
    clear c_VX_0 f_VX_0 c_VX_1 f_VX_1 c_VX_2 f_VX_2 c_VX_3 f_VX_3 c_VX_4 f_VX_4 c_VX_5 f_VX_5 c_VX_6 f_VX_6 c_VX_7 f_VX_7 l_VX
    replace NN := Lib.hid (Bgo NN.out hb)
    replace KF := Lib.hid ((KF.out).trans (keeps_of_below hb))
    replace VR := Lib.hid (blk_next hb VR.out)
    replace VL := Lib.hid (blk_next hb VL.out)
    replace VX := Lib.hid (blk_next hb VX.out)
    clear hb
    cases hb : rowB r
    · replace HGT : Hid (goodB (List.take (k + 1) l) = false) := Lib.hid (by rw [HGT.out, hb]; rfl)
      have GF := Lib.hid (good_prefix (k + 1) HGT.out)
      clear hb HVC HCC HGL
      have c_VR_0 := blk_cell VR.out 0 _ rfl
      have f_VR_0 := blk_frozen VR.out 0
      have l_VR := blk_lt VR.out
      gi_wp2_with (first | (exfalso; exact no_bool (by assumption)) | (refine ⟨trivial, ?_⟩; fail_if_success (refine ⟨rfl, ?_⟩)))
      clear c_VR_0 f_VR_0 l_VR
      replace KF := Lib.hid (keep_set (KF.out) (w.heap.size) 0 (.int .i64 8))
      replace VR : Hid ((w1.setCell ⟨w.heap.size, 0, none⟩ (.int .i64 8)).heap[w.heap.size]? = some (.cells #[.int .i64 8] 34)) := Lib.hid (blk_set (VR.out) 0 (.int .i64 8))
      replace VL : Hid ((w1.setCell ⟨w.heap.size, 0, none⟩ (.int .i64 8)).heap[w.heap.size + 1]? = some (.cells #[.int .i64 s.t, .int .i64 s.c, .int .i64 s.i, .int .i64 s.j, .int .i64 s.re, .int .i64 s.im, .int .i64 s.dn, .int .i64 s.n] 48)) := Lib.hid (blk_set_other (b' := w.heap.size) (VL.out) (by omega) 0 (.int .i64 8))
      replace VX : Hid ((w1.setCell ⟨w.heap.size, 0, none⟩ (.int .i64 8)).heap[Bx]? = some (.cells #[.int .i64 r.t, .int .i64 r.c, .int .i64 r.i, .int .i64 r.j, .int .i64 r.re, .int .i64 r.im, .int .i64 r.dn, .int .i64 r.n] 48)) := Lib.hid (blk_set_other (b' := w.heap.size) (VX.out) (by have := LX.out; omega) 0 (.int .i64 8))
      replace NN := Lib.hid (Bset1 (NN.out) (show w.heap.size ≤ w.heap.size by omega) 0 (.int .i64 8))
      generalize (w1.setCell ⟨w.heap.size, 0, none⟩ (.int .i64 8)) = W2 at *
      exact ⟨KF.out, rfl, GF.out, VR.out, NN.out⟩
    have hr8 := hb
    rw [hb, Bool.true_and] at HGT
    clear hb
    by_cases hk : k = 0
    · replace HGT : Hid (goodB (List.take (k + 1) l) = true) := Lib.hid (by rw [HGT.out, hk]; rfl)
      clear HVC HCC HGL
      have hk2 : decide (0 < k) = false := decide_eq_false (by omega)
      have hk3 : (0 < k) = False := by simp; omega
      clear hk
      have c_VX_0 := blk_cell VX.out 0 _ rfl
      have f_VX_0 := blk_frozen VX.out 0
      have c_VX_1 := blk_cell VX.out 1 _ rfl
      have f_VX_1 := blk_frozen VX.out 1
      have c_VX_2 := blk_cell VX.out 2 _ rfl
      have f_VX_2 := blk_frozen VX.out 2
      have c_VX_3 := blk_cell VX.out 3 _ rfl
      have f_VX_3 := blk_frozen VX.out 3
      have c_VX_4 := blk_cell VX.out 4 _ rfl
      have f_VX_4 := blk_frozen VX.out 4
      have c_VX_5 := blk_cell VX.out 5 _ rfl
      have f_VX_5 := blk_frozen VX.out 5
      have c_VX_6 := blk_cell VX.out 6 _ rfl
      have f_VX_6 := blk_frozen VX.out 6
      have c_VX_7 := blk_cell VX.out 7 _ rfl
      have f_VX_7 := blk_frozen VX.out 7
      have l_VX := blk_lt VX.out
      gi_wp2_with fail
      refine ⟨trivial, ?_⟩
      gi_wp2_with ((refine wpListIn_store_row rfl 48 _ _ rfl (w.heap.size + 1) #[.int .i64 r.t, .int .i64 r.c, .int .i64 r.i, .int .i64 r.j, .int .i64 r.re, .int .i64 r.im, .int .i64 r.dn, .int .i64 r.n] ?_ ?_ 48 _ VL.out ?_ ?_ ?_ ?_; rfl; rfl; kernel_rfl; rfl; (simp [Value.oneCell'])))
      clear c_VX_0 f_VX_0 c_VX_1 f_VX_1 c_VX_2 f_VX_2 c_VX_3 f_VX_3 c_VX_4 f_VX_4 c_VX_5 f_VX_5 c_VX_6 f_VX_6 c_VX_7 f_VX_7 l_VX
      replace VR := Lib.hid ((setRow_other w1 (w.heap.size + 1) (w.heap.size) #[.int .i64 r.t, .int .i64 r.c, .int .i64 r.i, .int .i64 r.j, .int .i64 r.re, .int .i64 r.im, .int .i64 r.dn, .int .i64 r.n] (by omega)).trans VR.out)
      replace VL := Lib.hid (setRow_heap w1 _ _ #[.int .i64 r.t, .int .i64 r.c, .int .i64 r.i, .int .i64 r.j, .int .i64 r.re, .int .i64 r.im, .int .i64 r.dn, .int .i64 r.n] _ _ VL.out)
      replace VX := Lib.hid ((setRow_other w1 (w.heap.size + 1) (Bx) #[.int .i64 r.t, .int .i64 r.c, .int .i64 r.i, .int .i64 r.j, .int .i64 r.re, .int .i64 r.im, .int .i64 r.dn, .int .i64 r.n] (by have := LX.out; omega)).trans VX.out)
      replace NN := Lib.hid (below_setRow NN.out (show w.heap.size ≤ w.heap.size + 1 by omega) #[.int .i64 r.t, .int .i64 r.c, .int .i64 r.i, .int .i64 r.j, .int .i64 r.re, .int .i64 r.im, .int .i64 r.dn, .int .i64 r.n])
      replace KF := Lib.hid (keep_row KF.out (w.heap.size + 1) #[.int .i64 r.t, .int .i64 r.c, .int .i64 r.i, .int .i64 r.j, .int .i64 r.re, .int .i64 r.im, .int .i64 r.dn, .int .i64 r.n])
      generalize w1.setRow (w.heap.size + 1) #[.int .i64 r.t, .int .i64 r.c, .int .i64 r.i, .int .i64 r.j, .int .i64 r.re, .int .i64 r.im, .int .i64 r.dn, .int .i64 r.n] = W3 at *
      refine ⟨KF.out, below_mid nn NN.out KF.out.size, VR.out, ?_, NN.out, by have := KF.out.size; omega, HGT.out⟩
      rw [lastR_succ, hr]; exact VL.out
    have hk2 : decide (0 < k) = true := decide_eq_true (by omega)
    have hk3 : (0 < k) = True := by simp; omega
    have HS := Lib.hid (HGL.out (by omega))
    rw [decide_eq_false hk, Bool.false_or] at HGT
    clear hk HGL HVC
    have HX := Lib.hid (cmpR_ge HS.out hr8)
    generalize cmpR s r = x at *
    clear hr8 HS
    have c_VX_0 := blk_cell VX.out 0 _ rfl
    have f_VX_0 := blk_frozen VX.out 0
    have c_VX_1 := blk_cell VX.out 1 _ rfl
    have f_VX_1 := blk_frozen VX.out 1
    have c_VX_2 := blk_cell VX.out 2 _ rfl
    have f_VX_2 := blk_frozen VX.out 2
    have c_VX_3 := blk_cell VX.out 3 _ rfl
    have f_VX_3 := blk_frozen VX.out 3
    have c_VX_4 := blk_cell VX.out 4 _ rfl
    have f_VX_4 := blk_frozen VX.out 4
    have c_VX_5 := blk_cell VX.out 5 _ rfl
    have f_VX_5 := blk_frozen VX.out 5
    have c_VX_6 := blk_cell VX.out 6 _ rfl
    have f_VX_6 := blk_frozen VX.out 6
    have c_VX_7 := blk_cell VX.out 7 _ rfl
    have f_VX_7 := blk_frozen VX.out 7
    have l_VX := blk_lt VX.out
    have c_VL_0 := blk_cell VL.out 0 _ rfl
    have f_VL_0 := blk_frozen VL.out 0
    have c_VL_1 := blk_cell VL.out 1 _ rfl
    have f_VL_1 := blk_frozen VL.out 1
    have c_VL_2 := blk_cell VL.out 2 _ rfl
    have f_VL_2 := blk_frozen VL.out 2
    have c_VL_3 := blk_cell VL.out 3 _ rfl
    have f_VL_3 := blk_frozen VL.out 3
    have c_VL_4 := blk_cell VL.out 4 _ rfl
    have f_VL_4 := blk_frozen VL.out 4
    have c_VL_5 := blk_cell VL.out 5 _ rfl
    have f_VL_5 := blk_frozen VL.out 5
    have c_VL_6 := blk_cell VL.out 6 _ rfl
    have f_VL_6 := blk_frozen VL.out 6
    have c_VL_7 := blk_cell VL.out 7 _ rfl
    have f_VL_7 := blk_frozen VL.out 7
    have l_VL := blk_lt VL.out
    gi_wp2_with fail
    refine ⟨trivial, rfl, (CallsIn.inRound lp ((callsIn_wide (n := 0)).2 (HCC.out _))).mono ?_⟩
    rintro e w4 ⟨rfl, hb⟩
    clear c_VX_0 f_VX_0 c_VX_1 f_VX_1 c_VX_2 f_VX_2 c_VX_3 f_VX_3 c_VX_4 f_VX_4 c_VX_5 f_VX_5 c_VX_6 f_VX_6 c_VX_7 f_VX_7 l_VX c_VL_0 f_VL_0 c_VL_1 f_VL_1 c_VL_2 f_VL_2 c_VL_3 f_VL_3 c_VL_4 f_VL_4 c_VL_5 f_VL_5 c_VL_6 f_VL_6 c_VL_7 f_VL_7 l_VL
    replace NN := Lib.hid (Bgo NN.out hb)
    replace KF := Lib.hid ((KF.out).trans (keeps_of_below hb))
    replace VR := Lib.hid (blk_next hb VR.out)
    replace VL := Lib.hid (blk_next hb VL.out)
    replace VX := Lib.hid (blk_next hb VX.out)
    clear hb
    cases hg : decide (vkey s < vkey r)
    · have h8 : decide (0 ≤ x) = true := by rw [HX.out, hg]; rfl
      have GF := Lib.hid (good_prefix (k + 1) (by rw [HGT.out]; exact hg))
      clear hg HX HGT HCC
      have c_VR_0 := blk_cell VR.out 0 _ rfl
      have f_VR_0 := blk_frozen VR.out 0
      have l_VR := blk_lt VR.out
      gi_wp2_with fail
      clear c_VR_0 f_VR_0 l_VR
      replace KF := Lib.hid (keep_set (KF.out) (w.heap.size) 0 (.int .i64 8))
      replace VR : Hid ((w4.setCell ⟨w.heap.size, 0, none⟩ (.int .i64 8)).heap[w.heap.size]? = some (.cells #[.int .i64 8] 34)) := Lib.hid (blk_set (VR.out) 0 (.int .i64 8))
      replace VL : Hid ((w4.setCell ⟨w.heap.size, 0, none⟩ (.int .i64 8)).heap[w.heap.size + 1]? = some (.cells #[.int .i64 s.t, .int .i64 s.c, .int .i64 s.i, .int .i64 s.j, .int .i64 s.re, .int .i64 s.im, .int .i64 s.dn, .int .i64 s.n] 48)) := Lib.hid (blk_set_other (b' := w.heap.size) (VL.out) (by omega) 0 (.int .i64 8))
      replace VX : Hid ((w4.setCell ⟨w.heap.size, 0, none⟩ (.int .i64 8)).heap[Bx]? = some (.cells #[.int .i64 r.t, .int .i64 r.c, .int .i64 r.i, .int .i64 r.j, .int .i64 r.re, .int .i64 r.im, .int .i64 r.dn, .int .i64 r.n] 48)) := Lib.hid (blk_set_other (b' := w.heap.size) (VX.out) (by have := LX.out; omega) 0 (.int .i64 8))
      replace NN := Lib.hid (Bset1 (NN.out) (show w.heap.size ≤ w.heap.size by omega) 0 (.int .i64 8))
      generalize (w4.setCell ⟨w.heap.size, 0, none⟩ (.int .i64 8)) = W5 at *
      exact ⟨KF.out, ⟨rfl, GF.out, VR.out, NN.out⟩⟩
    · have h8 : decide (0 ≤ x) = false := by rw [HX.out, hg]; rfl
      replace HGT : Hid (goodB (List.take (k + 1) l) = true) := Lib.hid (by rw [HGT.out]; exact hg)
      clear hg HX HCC
      have c_VX_0 := blk_cell VX.out 0 _ rfl
      have f_VX_0 := blk_frozen VX.out 0
      have c_VX_1 := blk_cell VX.out 1 _ rfl
      have f_VX_1 := blk_frozen VX.out 1
      have c_VX_2 := blk_cell VX.out 2 _ rfl
      have f_VX_2 := blk_frozen VX.out 2
      have c_VX_3 := blk_cell VX.out 3 _ rfl
      have f_VX_3 := blk_frozen VX.out 3
      have c_VX_4 := blk_cell VX.out 4 _ rfl
      have f_VX_4 := blk_frozen VX.out 4
      have c_VX_5 := blk_cell VX.out 5 _ rfl
      have f_VX_5 := blk_frozen VX.out 5
      have c_VX_6 := blk_cell VX.out 6 _ rfl
      have f_VX_6 := blk_frozen VX.out 6
      have c_VX_7 := blk_cell VX.out 7 _ rfl
      have f_VX_7 := blk_frozen VX.out 7
      have l_VX := blk_lt VX.out
      gi_wp2_with ((refine wpListIn_store_row rfl 48 _ _ rfl (w.heap.size + 1) #[.int .i64 r.t, .int .i64 r.c, .int .i64 r.i, .int .i64 r.j, .int .i64 r.re, .int .i64 r.im, .int .i64 r.dn, .int .i64 r.n] ?_ ?_ 48 _ VL.out ?_ ?_ ?_ ?_; rfl; rfl; kernel_rfl; rfl; (simp [Value.oneCell'])))
      clear c_VX_0 f_VX_0 c_VX_1 f_VX_1 c_VX_2 f_VX_2 c_VX_3 f_VX_3 c_VX_4 f_VX_4 c_VX_5 f_VX_5 c_VX_6 f_VX_6 c_VX_7 f_VX_7 l_VX
      replace VR := Lib.hid ((setRow_other w4 (w.heap.size + 1) (w.heap.size) #[.int .i64 r.t, .int .i64 r.c, .int .i64 r.i, .int .i64 r.j, .int .i64 r.re, .int .i64 r.im, .int .i64 r.dn, .int .i64 r.n] (by omega)).trans VR.out)
      replace VL := Lib.hid (setRow_heap w4 _ _ #[.int .i64 r.t, .int .i64 r.c, .int .i64 r.i, .int .i64 r.j, .int .i64 r.re, .int .i64 r.im, .int .i64 r.dn, .int .i64 r.n] _ _ VL.out)
      replace VX := Lib.hid ((setRow_other w4 (w.heap.size + 1) (Bx) #[.int .i64 r.t, .int .i64 r.c, .int .i64 r.i, .int .i64 r.j, .int .i64 r.re, .int .i64 r.im, .int .i64 r.dn, .int .i64 r.n] (by have := LX.out; omega)).trans VX.out)
      replace NN := Lib.hid (below_setRow NN.out (show w.heap.size ≤ w.heap.size + 1 by omega) #[.int .i64 r.t, .int .i64 r.c, .int .i64 r.i, .int .i64 r.j, .int .i64 r.re, .int .i64 r.im, .int .i64 r.dn, .int .i64 r.n])
      replace KF := Lib.hid (keep_row KF.out (w.heap.size + 1) #[.int .i64 r.t, .int .i64 r.c, .int .i64 r.i, .int .i64 r.j, .int .i64 r.re, .int .i64 r.im, .int .i64 r.dn, .int .i64 r.n])
      generalize w4.setRow (w.heap.size + 1) #[.int .i64 r.t, .int .i64 r.c, .int .i64 r.i, .int .i64 r.j, .int .i64 r.re, .int .i64 r.im, .int .i64 r.dn, .int .i64 r.n] = W6 at *
      refine ⟨KF.out, below_mid nn NN.out KF.out.size, VR.out, ?_, NN.out, by have := KF.out.size; omega, HGT.out⟩
      rw [lastR_succ, hr]; exact VL.out
  case done =>
    rintro D W hD ⟨v1, v2, nn, sz, hg⟩ hK
    have HR : Hid (v = 0) := Lib.hid (by rw [FV.out, ← List.take_length (l := l), hg]; rfl)
    have hDs := SZ.out
    have NN := Lib.hid nn
    have VR := Lib.hid v1
    have HK := Lib.hid hK
    clear v1 v2 hK hg
    have c_VR_0 := blk_cell VR.out 0 _ rfl
    have f_VR_0 := blk_frozen VR.out 0
    have l_VR := blk_lt VR.out
    gi_wp2_with fail
    clear c_VR_0 f_VR_0 l_VR
    replace HK := Lib.hid (blk_set_other (b' := w.heap.size) HK.out (by omega) 0 (.int .i64 0))
    replace VR : Hid ((W.setCell ⟨w.heap.size, 0, none⟩ (.int .i64 0)).heap[w.heap.size]? = some (.cells #[.int .i64 0] 34)) := Lib.hid (blk_set (VR.out) 0 (.int .i64 0))
    replace NN := Lib.hid (Bset1 (NN.out) (show w.heap.size ≤ w.heap.size by omega) 0 (.int .i64 0))
    generalize (W.setCell ⟨w.heap.size, 0, none⟩ (.int .i64 0)) = W1 at *
    refine ⟨by simp, .inl ⟨_, _, rfl, run_takeDeferred HK.out, ?_⟩⟩
    have e0 := blk_cell (put_blk (D := D) (o' := .deferred none) VR.out (by omega)) 0 (.int .i64 0) rfl
    exact ⟨_, by simp [results, Try.results13, go_sem, e0], ret_int HR.out.symm, put_below NN.out (by omega) (Nat.le_refl _) HK.out⟩
  case stop =>
    rintro D cd k W hD hlt ⟨rfl, hg, v1, nn⟩ hK
    have HR : Hid (v = 8) := Lib.hid (by rw [FV.out, hg]; rfl)
    have hDs := SZ.out
    gi_wp2
    refine ⟨by simp, .inl ⟨_, _, rfl, run_takeDeferred hK, ?_⟩⟩
    have e0 := blk_cell (put_blk (D := D) (o' := .deferred none) v1 (by omega)) 0 (.int .i64 8) rfl
    exact ⟨_, by simp [results, Try.results13, go_sem, e0], ret_int HR.out.symm, put_below nn (by omega) (Nat.le_refl _) hK⟩
end Go.Proofs.Ytbbnkclajpaghaa
