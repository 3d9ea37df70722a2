/- Several texts in one. -/
import Derived.OwnWalk
import Derived.Deep.Slices
import Derived.Deep.Fields
import Derived.ChangeSame
import Derived.ChangeArms
import Derived.Lib.SmallJoins
import Derived.Test.YtbbnkclajpaghaaGreatDoorRows
import Derived.Deep.DeepHandedRow
import Derived.ProofKit
import Derived.SizedLaws
import Derived.Stop.LaidErr
import Derived.Lib.LaidTab
import Derived.Test.YtbbnkclajpaghaaGreatDoorMS03
import Derived.Test.YtbbnkclajpaghaaGreatDoorMS06
import Derived.Test.YtbbnkclajpaghaaGreatDoorMS07
import Derived.Test.YtbbnkclajpaghaaGreatDoorMS11
import Derived.Test.YtbbnkclajpaghaaGreatDoorMS13
namespace Go.Proofs.YtbbnkclajpaghaaGreatDoor
open Go.ChangeShapes Go.WideShapes Go.ChangeAt Go.RowKit
set_option linter.unusedVariables false
set_option linter.unusedSimpArgs false
attribute [local go_sem] Oper.semAt_some
theorem parP_eq (s : List UInt8) : parP s = match allO prP (linesF s) with
 | some t => if chkE t = 0 ∧ txT t = s then some t else none
 | none => none := rfl
theorem parP_no {s x : List UInt8} (hx : x ∈ linesF s) (h : prP x = none) : parP s = none := by rw [parP_eq, allO_none h hx]
theorem parP_long {s : List UInt8} (h : 200 < (linesF s).length) : parP s = none := by
 rw [parP_eq]
 split
 ·rename_i t ht
  rw [if_neg]
  intro hh
  have := (chk_rows hh.1).1
  have := allO_len ht
  omega
 ·rfl
theorem parP_fin {s : List UInt8} {t : List Vr} (h : allO prP (linesF s) = some t) : parP s = if chkE t = 0 ∧ txT t = s then some t else none := by rw [parP_eq, h]
theorem txE_ok {t : List Vr} {s : List UInt8} (hs : ¬ 20000 < s.length) : (txE t = 0 ∧ txO t = s) ↔ (chkE t = 0 ∧ txT t = s) := by
 unfold txO txE
 by_cases h1 : chkE t = 0
 ·by_cases h2 : 20000 < (txT t).length
  ·simp only [h1, h2, ne_eq, not_true_eq_false, if_true, if_false]
   constructor
   ·rintro ⟨h, -⟩; cases h
   ·rintro ⟨-, h⟩; rw [h] at h2; exact absurd h2 hs
  ·simp [h1, h2]
 ·simp [h1]
theorem wpListIn_app1 {F : Fence} {n : Nat} {w : World} {ops : Array Oper} {rest : List Oper} {o : Oper} {a : Act} {Q : Exit → Act → World → Prop}
  (hg : o.guard = none) (s x : Operand) (hop : o.op = Op.call { callee := Callee.builtin Builtin.append, args := #[s, x], argTypes := #[22, 22] })
  (B : Nat) (v : Value) (l : List Vr) (hs : a.eval s = v) (A : Option Addr) (r : Vr) (hx : a.eval x = .slice A 1 1)
  (hown : OR B w v l) (hr : RT w A [r]) (hb : l.length ≤ 900) (hB : B ≤ w.heap.size)
  (hK : ∀ A1 c1 w', OR B w' (.slice A1 (l.length + 1) c1) (l ++ [r]) → Below B w w' → KeepsOthers w w' → wpListIn F n Tryz.prog ops Q rest (a.put o.dst (.slice A1 (l.length + 1) c1)) w') : wpListIn F n Tryz.prog ops Q (o :: rest) a w := by
 refine wpListIn_app hg s x hop B v l hs A 1 1 [r] hx hown rfl hr (by omega) hB ?_
 intro v' w' h1 h2 h3
 obtain ⟨A1, c1, hv, -⟩ := OR.form h1
 rw [List.length_append, List.length_singleton] at hv
 subst hv
 exact hK A1 c1 w' h1 h2 h3
set_option maxRecDepth 100000 in
set_option maxHeartbeats 8000000 in
theorem tparse_calls (s : List UInt8) (hs : s.length ≤ 100000) (w : World) (g : GL w) : Calls Tryz.prog 11 #[Str s] w fun e w' =>
  ∃ v, e = .returned (.tuple #[v, .int .i64 (paE s)]) ∧ Below w.heap.size w w' ∧ OR w.heap.size w' v (paL s) := by
 have GG := Lib.hid (fun W (h : Below w.heap.size w W) => g.next h)
 have NN := Lib.hid (Below.refl w.heap.size w)
 have PLg := Lib.hid (fun h => pa_long (s := s) h)
 have PNg := Lib.hid (fun h1 h2 => pa_none (s := s) h1 h2)
 have PSg := Lib.hid (fun t h1 h2 => pa_some (s := s) (t := t) h1 h2)
 obtain ⟨pe, hpe⟩ : ∃ pe, paE s = pe := ⟨_, rfl⟩
 obtain ⟨pl, hpl⟩ : ∃ pl, paL s = pl := ⟨_, rfl⟩
 rw [hpe, hpl] at PLg PNg ⊢
 rw [hpe, hpl] at PSg
 clear hpe hpl g
 have hz : (⟨s.toArray⟩ : ByteArray).size = s.length := by show s.toArray.size = _; simp
 refine (callsIn_wide (n := 0)).1 ?_
 refine callsIn_of_wp_marks Tryz.func11 rfl trivial ?_ rfl
 simp only [Tryz.ntmps11, List.size_toArray, List.length_cons, List.length_nil, Nat.reduceAdd, Nat.reduceSub, Array.replicate_succ, Array.replicate_zero, List.push_toArray, List.append_toArray, List.nil_append, List.cons_append]
 by_cases h0 : 20000 < s.length
 ·have d1 : decide ((20000 : Int) < (s.length : Int)) = true := decide_eq_true (by omega)
  have HE := Lib.hid (PLg.out h0)
  clear PLg PNg PSg
  gi_wp2_with fail
  have c_V2_0 := blk_cell (blk_alloc (blk_new w (.cells #[.slice none 0 0] 22)) (.cells #[.int .i64 4] 24)) 0 _ rfl
  have c_V3_0 : ((w.alloc (.cells #[.slice none 0 0] 22)).alloc (.cells #[.int .i64 4] 24)).cell? ⟨w.heap.size + 1, 0, none⟩ = some (.int .i64 4) := blk_cell (blk_at _ (by simp)) 0 _ rfl
  replace NN : Hid (Below w.heap.size w ((w.alloc (.cells #[.slice none 0 0] 22)).alloc (.cells #[.int .i64 4] 24))) := Lib.hid (Bal (Bal NN.out _) _)
  exact ⟨.tuple #[.slice none 0 0, .int .i64 4], by simp [results, Tryz.results11, go_sem, c_V2_0, c_V3_0], ⟨_, by rw [HE.out.1], NN.out, by rw [HE.out.2]; exact OR.nil _ _⟩⟩
 have d1 : decide ((20000 : Int) < (s.length : Int)) = false := decide_eq_false (by omega)
 have PN := Lib.hid (PNg.out h0)
 have PS := Lib.hid (fun t => PSg.out t h0)
 clear PLg PNg PSg
 gi_wp2_with fail
 have V2 : Hid (((w.alloc (.cells #[.slice none 0 0] 22)).alloc (.cells #[.int .i64 0] 24)).heap[w.heap.size]? = some (.cells #[.slice none 0 0] 22)) := Lib.hid (blk_alloc (blk_new w _) _)
 have V3 : Hid (((w.alloc (.cells #[.slice none 0 0] 22)).alloc (.cells #[.int .i64 0] 24)).heap[w.heap.size + 1]? = some (.cells #[.int .i64 0] 24)) := Lib.hid (blk_at _ (by simp))
 replace NN : Hid (Below w.heap.size w ((w.alloc (.cells #[.slice none 0 0] 22)).alloc (.cells #[.int .i64 0] 24))) := Lib.hid (Bal (Bal NN.out _) _)
 have HS9 : ((w.alloc (.cells #[.slice none 0 0] 22)).alloc (.cells #[.int .i64 0] 24)).heap.size = w.heap.size + 1 + 1 := by simp
 generalize ((w.alloc (.cells #[.slice none 0 0] 22)).alloc (.cells #[.int .i64 0] 24)) = W3 at *
 rw [← HS9]
 clear HS9
 refine ⟨trivial, rfl, (callsIn_wide.2 (lines_calls s _)).mono ?_⟩
 rintro e w9 ⟨rfl, rfl⟩
 gi_wp2_with fail
 have LG : Hid (w.heap.size + 2 ≤ W3.heap.size) := Lib.hid (by have := blk_lt V3.out; omega)
 have HB1 := Lib.hid (fun x hx h => parP_no (s := s) (x := x) hx h)
 have HB2 := Lib.hid (fun h => parP_long (s := s) h)
 have HB3 := Lib.hid (fun t h => parP_fin (s := s) (t := t) h)
 have HW := Lib.hid (fun x hx => Nat.le_trans (linesF_part s.length s (Nat.le_refl _) x hx) hs)
 replace NN : Hid (Below w.heap.size w ((W3.alloc (.cells #[.slice none 0 0] 22)).alloc (.cells #[Str s] 9))) := Lib.hid (Bal (Bal NN.out _) _)
 have SZ : Hid (((W3.alloc (.cells #[.slice none 0 0] 22)).alloc (.cells #[Str s] 9)).heap.size = W3.heap.size + 2) := Lib.hid (by simp)
 replace V2 : Hid (((W3.alloc (.cells #[.slice none 0 0] 22)).alloc (.cells #[Str s] 9)).heap[w.heap.size]? = some (.cells #[.slice none 0 0] 22)) := Lib.hid (blk_alloc (blk_alloc V2.out _) _)
 replace V3 : Hid (((W3.alloc (.cells #[.slice none 0 0] 22)).alloc (.cells #[Str s] 9)).heap[w.heap.size + 1]? = some (.cells #[.int .i64 0] 24)) := Lib.hid (blk_alloc (blk_alloc V3.out _) _)
 have V9 : Hid (((W3.alloc (.cells #[.slice none 0 0] 22)).alloc (.cells #[Str s] 9)).heap[W3.heap.size]? = some (.cells #[.slice none 0 0] 22)) := Lib.hid (blk_alloc (blk_new W3 _) _)
 have VT : Hid (((W3.alloc (.cells #[.slice none 0 0] 22)).alloc (.cells #[Str s] 9)).heap[W3.heap.size + 1]? = some (.cells #[Str s] 9)) := Lib.hid (blk_at _ (by simp))
 generalize ((W3.alloc (.cells #[.slice none 0 0] 22)).alloc (.cells #[Str s] 9)) = W0 at *
 generalize W3.heap.size = g2 at *
 refine range_n 60 #[.pointer (some ⟨g2 + 1, 0, none⟩)] rfl (enters_of Tryz.func60 (by kernel_rfl) rfl) (encL s) w.heap.size (linesF s).length
  (lines_seq hs (fun W h => GG.out W (NN.out.trans h)) (by have := SZ.out; have := LG.out; omega) VT.out) (by have := SZ.out; have := LG.out; omega) (fun _ => rfl)
  (fun k W => (W.heap[w.heap.size]? = some (.cells #[.slice none 0 0] 22)) ∧ (W.heap[w.heap.size + 1]? = some (.cells #[.int .i64 0] 24)) ∧ (Below w.heap.size w W) ∧ (g2 + 2 ≤ W.heap.size) ∧ (∃ (t : List Vr) (A9 : Option Addr) (c9 : Nat), allO prP ((linesF s).take k) = some t ∧ t.length ≤ 200 ∧ W.heap[g2]? = some (.cells #[.slice A9 t.length c9] 22) ∧ OR W0.heap.size W (.slice A9 t.length c9) t))
  (fun cd k W => ((cd = .ret) ∧ (parP s = none) ∧ (W.heap[w.heap.size]? = some (.cells #[.slice none 0 0] 22)) ∧ (W.heap[w.heap.size + 1]? = some (.cells #[.int .i64 12] 24)) ∧ (Below w.heap.size w W)))
  (fun k a' W => (a' = { tmps := #[Str s, undef, .pointer (some ⟨w.heap.size, 0, none⟩), .pointer (some ⟨w.heap.size + 1, 0, none⟩), .pointer (some ⟨g2, 0, none⟩), Str ((linesF s).getD k []), undef, undef, undef, undef, Str s, .int .i64 (s.length : Int), .bool false, Str s, .func (.func 60) #[] #[.pointer (some ⟨g2 + 1, 0, none⟩)], Str ((linesF s).getD k []), undef, undef, undef, undef, undef, undef, undef, undef, undef, undef, undef, undef, undef, undef, undef, undef, undef, undef, undef, undef, undef, undef, undef, undef, undef, undef, undef, undef, undef], defers := [] }) ∧ (W.heap[w.heap.size]? = some (.cells #[.slice none 0 0] 22)) ∧ (W.heap[w.heap.size + 1]? = some (.cells #[.int .i64 0] 24)) ∧ (Below w.heap.size w W) ∧ (g2 + 2 ≤ W.heap.size) ∧ (∃ (t : List Vr) (A9 : Option Addr) (c9 : Nat), allO prP ((linesF s).take k) = some t ∧ t.length ≤ 200 ∧ W.heap[g2]? = some (.cells #[.slice A9 t.length c9] 22) ∧ OR W0.heap.size W (.slice A9 t.length c9) t))
  ((own_blk _ _ _).and ((own_blk _ _ _).and ((ownFrom_below (Nat.le_refl _) (by have := SZ.out; have := LG.out; omega)).and ((own_size _).and (own_ex fun _ => own_ex fun _ => own_ex fun _ => (own_pure _).and ((own_pure _).and ((own_blk _ _ _).and (own_row _ _))))))))
  (fun _ => ((own_pure _).and ((own_pure _).and ((own_blk _ _ _).and ((own_blk _ _ _).and (ownFrom_below (Nat.le_refl _) (by have := SZ.out; have := LG.out; omega)))))))
  (fun _ => ((own_pure _).and ((own_blk _ _ _).and ((own_blk _ _ _).and ((ownFrom_below (Nat.le_refl _) (by have := SZ.out; have := LG.out; omega)).and ((own_size _).and (own_ex fun _ => own_ex fun _ => own_ex fun _ => (own_pure _).and ((own_pure _).and ((own_blk _ _ _).and (own_row _ _))))))))))
  ⟨V2.out, V3.out, NN.out, (by have := SZ.out; have := LG.out; omega), ⟨[], none, 0, rfl, Nat.zero_le _, V9.out, OR.nil _ _⟩⟩ ?assign ?body ?done ?stop
 case assign =>
  rintro lp k W K ⟨v2, v3, nn, sz, t, A9, c9, h1, h2, v9, o9⟩ hlt hK
  gi_wp2
  exact hK _ _ (KeepsFrom.refl _ _) (Below.refl _ _) ⟨(by rw [List.getD_eq_getElem?_getD, List.getElem?_eq_getElem hlt]; rfl), v2, v3, nn, sz, t, A9, c9, h1, h2, v9, o9⟩
 case body =>
  rintro lp k a' W ⟨rfl, v2, v3, nn, sz, t, A9, c9, h1, h2, v9, o9⟩ hlt
  have hz9 := SZ.out
  have hg := LG.out
  obtain ⟨ln, hln⟩ : ∃ ln, (linesF s)[k]? = some ln := ⟨_, List.getElem?_eq_getElem hlt⟩
  have hgd : (linesF s).getD k [] = ln := by rw [List.getD_eq_getElem?_getD, hln]; rfl
  rw [hgd]
  have MEM := Lib.hid (List.mem_of_getElem? hln)
  have HLK := Lib.hid hln
  have HLL := HW.out ln (List.mem_of_getElem? hln)
  have TA := Lib.hid h1
  have TL : Hid (t.length = k) := Lib.hid (by have := allO_len h1; rw [List.length_take] at this; omega)
  have HLT := Lib.hid hlt
  have O9 := Lib.hid o9
  have SW : Hid (W0.heap.size ≤ W.heap.size) := Lib.hid (by omega)
  clear o9 h1 hln hgd hlt
  have NN := Lib.hid nn
  have KF := Lib.hid (KeepsFrom.refl W0.heap.size W)
  have V2 := Lib.hid v2
  have V3 := Lib.hid v3
  have V9 := Lib.hid v9
  clear v2 v3 v9
  gi_wp2_with fail
  refine ⟨trivial, rfl, (CallsIn.inRound lp ((callsIn_wide (n := 0)).2 (parseLine_calls ln HLL _ (GG.out _ NN.out)))).mono ?_⟩
  rintro e wp ⟨⟨r, ok, rfl, hv⟩, hb⟩
  replace NN := Lib.hid (Bgo NN.out hb)
  replace KF := Lib.hid ((KF.out).trans (keeps_of_below hb))
  replace O9 := Lib.hid (OR.next O9.out hb)
  replace SW := Lib.hid (Nat.le_trans SW.out hb.size)
  replace V2 := Lib.hid (blk_next hb V2.out)
  replace V3 := Lib.hid (blk_next hb V3.out)
  replace V9 := Lib.hid (blk_next hb V9.out)
  clear hb
  rcases hv with ⟨rfl, hn⟩ | ⟨rfl, hn⟩
  ·have R0 : parP s = none := HB1.out ln MEM.out hn
   clear hn HB1 HB2 HB3 HW MEM HLK TA PN PS
   have HB : Hid (Below wp.heap.size wp (wp.alloc (.cells #[.int .i64 r.t, .int .i64 r.c, .int .i64 r.i, .int .i64 r.j, .int .i64 r.re, .int .i64 r.im, .int .i64 r.dn, .int .i64 r.n] 44))) := Lib.hid (Bal (Below.refl _ _) _)
   have VX := Lib.hid (blk_new wp (.cells #[.int .i64 r.t, .int .i64 r.c, .int .i64 r.i, .int .i64 r.j, .int .i64 r.re, .int .i64 r.im, .int .i64 r.dn, .int .i64 r.n] 44))
   have LT_VX : Hid (w.heap.size < wp.heap.size ∧ w.heap.size + 1 < wp.heap.size ∧ g2 < wp.heap.size ∧ w.heap.size ≤ wp.heap.size) := Lib.hid ⟨blk_lt V2.out, blk_lt V3.out, blk_lt V9.out, NN.out.size⟩
   replace NN := Lib.hid (Bgo NN.out HB.out)
   replace KF := Lib.hid ((KF.out).trans (keeps_of_below HB.out))
   replace O9 := Lib.hid (OR.next O9.out HB.out)
   replace SW := Lib.hid (Nat.le_trans SW.out HB.out.size)
   replace V2 := Lib.hid (blk_next HB.out V2.out)
   replace V3 := Lib.hid (blk_next HB.out V3.out)
   replace V9 := Lib.hid (blk_next HB.out V9.out)
   clear HB
   have c_V2_0 := blk_cell V2.out 0 _ rfl
   have f_V2_0 := blk_frozen V2.out 0
   have l_V2 := blk_lt V2.out
   have c_V3_0 := blk_cell V3.out 0 _ rfl
   have f_V3_0 := blk_frozen V3.out 0
   have l_V3 := blk_lt V3.out
   have c_V9_0 := blk_cell V9.out 0 _ rfl
   have f_V9_0 := blk_frozen V9.out 0
   have l_V9 := blk_lt V9.out
   gi_wp2_with fail
   clear c_V2_0 f_V2_0 l_V2 c_V3_0 f_V3_0 l_V3 c_V9_0 f_V9_0 l_V9
   replace KF := Lib.hid (keep_set (keep_set (KF.out) (w.heap.size) 0 (.slice none 0 0)) (w.heap.size + 1) 0 (.int .i64 12))
   replace V2 : Hid ((((wp.alloc (.cells #[.int .i64 r.t, .int .i64 r.c, .int .i64 r.i, .int .i64 r.j, .int .i64 r.re, .int .i64 r.im, .int .i64 r.dn, .int .i64 r.n] 44)).setCell ⟨w.heap.size, 0, none⟩ (.slice none 0 0)).setCell ⟨w.heap.size + 1, 0, none⟩ (.int .i64 12)).heap[w.heap.size]? = some (.cells #[.slice none 0 0] 22)) := Lib.hid (blk_set_other (b' := w.heap.size + 1) (blk_set (V2.out) 0 (.slice none 0 0)) (by omega) 0 (.int .i64 12))
   replace V3 : Hid ((((wp.alloc (.cells #[.int .i64 r.t, .int .i64 r.c, .int .i64 r.i, .int .i64 r.j, .int .i64 r.re, .int .i64 r.im, .int .i64 r.dn, .int .i64 r.n] 44)).setCell ⟨w.heap.size, 0, none⟩ (.slice none 0 0)).setCell ⟨w.heap.size + 1, 0, none⟩ (.int .i64 12)).heap[w.heap.size + 1]? = some (.cells #[.int .i64 12] 24)) := Lib.hid (blk_set (blk_set_other (b' := w.heap.size) (V3.out) (by omega) 0 (.slice none 0 0)) 0 (.int .i64 12))
   replace V9 : Hid ((((wp.alloc (.cells #[.int .i64 r.t, .int .i64 r.c, .int .i64 r.i, .int .i64 r.j, .int .i64 r.re, .int .i64 r.im, .int .i64 r.dn, .int .i64 r.n] 44)).setCell ⟨w.heap.size, 0, none⟩ (.slice none 0 0)).setCell ⟨w.heap.size + 1, 0, none⟩ (.int .i64 12)).heap[g2]? = some (.cells #[.slice A9 t.length c9] 22)) := Lib.hid (blk_set_other (b' := w.heap.size + 1) (blk_set_other (b' := w.heap.size) (V9.out) (by omega) 0 (.slice none 0 0)) (by omega) 0 (.int .i64 12))
   replace VX : Hid ((((wp.alloc (.cells #[.int .i64 r.t, .int .i64 r.c, .int .i64 r.i, .int .i64 r.j, .int .i64 r.re, .int .i64 r.im, .int .i64 r.dn, .int .i64 r.n] 44)).setCell ⟨w.heap.size, 0, none⟩ (.slice none 0 0)).setCell ⟨w.heap.size + 1, 0, none⟩ (.int .i64 12)).heap[wp.heap.size]? = some (.cells #[.int .i64 r.t, .int .i64 r.c, .int .i64 r.i, .int .i64 r.j, .int .i64 r.re, .int .i64 r.im, .int .i64 r.dn, .int .i64 r.n] 44)) := Lib.hid (blk_set_other (b' := w.heap.size + 1) (blk_set_other (b' := w.heap.size) (VX.out) (by have := LT_VX.out; omega) 0 (.slice none 0 0)) (by have := LT_VX.out; omega) 0 (.int .i64 12))
   replace NN := Lib.hid (Bset1 (Bset1 (NN.out) (show w.heap.size ≤ w.heap.size by omega) 0 (.slice none 0 0)) (show w.heap.size ≤ w.heap.size + 1 by omega) 0 (.int .i64 12))
   generalize (((wp.alloc (.cells #[.int .i64 r.t, .int .i64 r.c, .int .i64 r.i, .int .i64 r.j, .int .i64 r.re, .int .i64 r.im, .int .i64 r.dn, .int .i64 r.n] 44)).setCell ⟨w.heap.size, 0, none⟩ (.slice none 0 0)).setCell ⟨w.heap.size + 1, 0, none⟩ (.int .i64 12)) = W2 at *
   exact ⟨KF.out, rfl, R0, V2.out, V3.out, NN.out⟩
  by_cases h200 : t.length = 200
  ·have R0 : parP s = none := HB2.out (by have := TL.out; have := HLT.out; omega)
   have q8 : ((t.length : Int) == 200) = true := by rw [beq_iff_eq]; omega
   clear h200 hn HB1 HB2 HB3 HW MEM HLK TA TL PN PS
   have HB : Hid (Below wp.heap.size wp (wp.alloc (.cells #[.int .i64 r.t, .int .i64 r.c, .int .i64 r.i, .int .i64 r.j, .int .i64 r.re, .int .i64 r.im, .int .i64 r.dn, .int .i64 r.n] 44))) := Lib.hid (Bal (Below.refl _ _) _)
   have VX := Lib.hid (blk_new wp (.cells #[.int .i64 r.t, .int .i64 r.c, .int .i64 r.i, .int .i64 r.j, .int .i64 r.re, .int .i64 r.im, .int .i64 r.dn, .int .i64 r.n] 44))
   have LT_VX : Hid (w.heap.size < wp.heap.size ∧ w.heap.size + 1 < wp.heap.size ∧ g2 < wp.heap.size ∧ w.heap.size ≤ wp.heap.size) := Lib.hid ⟨blk_lt V2.out, blk_lt V3.out, blk_lt V9.out, NN.out.size⟩
   replace NN := Lib.hid (Bgo NN.out HB.out)
   replace KF := Lib.hid ((KF.out).trans (keeps_of_below HB.out))
   replace O9 := Lib.hid (OR.next O9.out HB.out)
   replace SW := Lib.hid (Nat.le_trans SW.out HB.out.size)
   replace V2 := Lib.hid (blk_next HB.out V2.out)
   replace V3 := Lib.hid (blk_next HB.out V3.out)
   replace V9 := Lib.hid (blk_next HB.out V9.out)
   clear HB
   have c_V2_0 := blk_cell V2.out 0 _ rfl
   have f_V2_0 := blk_frozen V2.out 0
   have l_V2 := blk_lt V2.out
   have c_V3_0 := blk_cell V3.out 0 _ rfl
   have f_V3_0 := blk_frozen V3.out 0
   have l_V3 := blk_lt V3.out
   have c_V9_0 := blk_cell V9.out 0 _ rfl
   have f_V9_0 := blk_frozen V9.out 0
   have l_V9 := blk_lt V9.out
   gi_wp2_with fail
   clear c_V2_0 f_V2_0 l_V2 c_V3_0 f_V3_0 l_V3 c_V9_0 f_V9_0 l_V9
   replace KF := Lib.hid (keep_set (keep_set (KF.out) (w.heap.size) 0 (.slice none 0 0)) (w.heap.size + 1) 0 (.int .i64 12))
   replace V2 : Hid ((((wp.alloc (.cells #[.int .i64 r.t, .int .i64 r.c, .int .i64 r.i, .int .i64 r.j, .int .i64 r.re, .int .i64 r.im, .int .i64 r.dn, .int .i64 r.n] 44)).setCell ⟨w.heap.size, 0, none⟩ (.slice none 0 0)).setCell ⟨w.heap.size + 1, 0, none⟩ (.int .i64 12)).heap[w.heap.size]? = some (.cells #[.slice none 0 0] 22)) := Lib.hid (blk_set_other (b' := w.heap.size + 1) (blk_set (V2.out) 0 (.slice none 0 0)) (by omega) 0 (.int .i64 12))
   replace V3 : Hid ((((wp.alloc (.cells #[.int .i64 r.t, .int .i64 r.c, .int .i64 r.i, .int .i64 r.j, .int .i64 r.re, .int .i64 r.im, .int .i64 r.dn, .int .i64 r.n] 44)).setCell ⟨w.heap.size, 0, none⟩ (.slice none 0 0)).setCell ⟨w.heap.size + 1, 0, none⟩ (.int .i64 12)).heap[w.heap.size + 1]? = some (.cells #[.int .i64 12] 24)) := Lib.hid (blk_set (blk_set_other (b' := w.heap.size) (V3.out) (by omega) 0 (.slice none 0 0)) 0 (.int .i64 12))
   replace V9 : Hid ((((wp.alloc (.cells #[.int .i64 r.t, .int .i64 r.c, .int .i64 r.i, .int .i64 r.j, .int .i64 r.re, .int .i64 r.im, .int .i64 r.dn, .int .i64 r.n] 44)).setCell ⟨w.heap.size, 0, none⟩ (.slice none 0 0)).setCell ⟨w.heap.size + 1, 0, none⟩ (.int .i64 12)).heap[g2]? = some (.cells #[.slice A9 t.length c9] 22)) := Lib.hid (blk_set_other (b' := w.heap.size + 1) (blk_set_other (b' := w.heap.size) (V9.out) (by omega) 0 (.slice none 0 0)) (by omega) 0 (.int .i64 12))
   replace VX : Hid ((((wp.alloc (.cells #[.int .i64 r.t, .int .i64 r.c, .int .i64 r.i, .int .i64 r.j, .int .i64 r.re, .int .i64 r.im, .int .i64 r.dn, .int .i64 r.n] 44)).setCell ⟨w.heap.size, 0, none⟩ (.slice none 0 0)).setCell ⟨w.heap.size + 1, 0, none⟩ (.int .i64 12)).heap[wp.heap.size]? = some (.cells #[.int .i64 r.t, .int .i64 r.c, .int .i64 r.i, .int .i64 r.j, .int .i64 r.re, .int .i64 r.im, .int .i64 r.dn, .int .i64 r.n] 44)) := Lib.hid (blk_set_other (b' := w.heap.size + 1) (blk_set_other (b' := w.heap.size) (VX.out) (by have := LT_VX.out; omega) 0 (.slice none 0 0)) (by have := LT_VX.out; omega) 0 (.int .i64 12))
   replace NN := Lib.hid (Bset1 (Bset1 (NN.out) (show w.heap.size ≤ w.heap.size by omega) 0 (.slice none 0 0)) (show w.heap.size ≤ w.heap.size + 1 by omega) 0 (.int .i64 12))
   generalize (((wp.alloc (.cells #[.int .i64 r.t, .int .i64 r.c, .int .i64 r.i, .int .i64 r.j, .int .i64 r.re, .int .i64 r.im, .int .i64 r.dn, .int .i64 r.n] 44)).setCell ⟨w.heap.size, 0, none⟩ (.slice none 0 0)).setCell ⟨w.heap.size + 1, 0, none⟩ (.int .i64 12)) = W4 at *
   exact ⟨KF.out, rfl, R0, V2.out, V3.out, NN.out⟩
  have q8 : ((t.length : Int) == 200) = false := by rw [beq_eq_false_iff_ne]; omega
  have TA8 : Hid (allO prP ((linesF s).take (k + 1)) = some (t ++ [r])) := Lib.hid (by obtain ⟨q1, q2⟩ := List.getElem?_eq_some_iff.1 HLK.out; rw [← List.take_append_getElem q1, q2]; exact allO_snoc hn TA.out)
  clear hn HB1 HB2 HB3 HW MEM HLK TA PN PS TL HLT
  have HB : Hid (Below wp.heap.size wp (wp.alloc (.cells #[.int .i64 r.t, .int .i64 r.c, .int .i64 r.i, .int .i64 r.j, .int .i64 r.re, .int .i64 r.im, .int .i64 r.dn, .int .i64 r.n] 44))) := Lib.hid (Bal (Below.refl _ _) _)
  have VX := Lib.hid (blk_new wp (.cells #[.int .i64 r.t, .int .i64 r.c, .int .i64 r.i, .int .i64 r.j, .int .i64 r.re, .int .i64 r.im, .int .i64 r.dn, .int .i64 r.n] 44))
  have LT_VX : Hid (w.heap.size < wp.heap.size ∧ w.heap.size + 1 < wp.heap.size ∧ g2 < wp.heap.size ∧ w.heap.size ≤ wp.heap.size) := Lib.hid ⟨blk_lt V2.out, blk_lt V3.out, blk_lt V9.out, NN.out.size⟩
  replace NN := Lib.hid (Bgo NN.out HB.out)
  replace KF := Lib.hid ((KF.out).trans (keeps_of_below HB.out))
  replace O9 := Lib.hid (OR.next O9.out HB.out)
  replace SW := Lib.hid (Nat.le_trans SW.out HB.out.size)
  replace V2 := Lib.hid (blk_next HB.out V2.out)
  replace V3 := Lib.hid (blk_next HB.out V3.out)
  replace V9 := Lib.hid (blk_next HB.out V9.out)
  clear HB
  have c_V9_0 := blk_cell V9.out 0 _ rfl
  have f_V9_0 := blk_frozen V9.out 0
  have l_V9 := blk_lt V9.out
  have c_VX_0 := blk_cell VX.out 0 _ rfl
  have f_VX_0 := blk_frozen VX.out 0
  have c_VX_1 := blk_cell VX.out 1 _ rfl
  have f_VX_1 := blk_frozen VX.out 1
  have c_VX_2 := blk_cell VX.out 2 _ rfl
  have f_VX_2 := blk_frozen VX.out 2
  have c_VX_3 := blk_cell VX.out 3 _ rfl
  have f_VX_3 := blk_frozen VX.out 3
  have c_VX_4 := blk_cell VX.out 4 _ rfl
  have f_VX_4 := blk_frozen VX.out 4
  have c_VX_5 := blk_cell VX.out 5 _ rfl
  have f_VX_5 := blk_frozen VX.out 5
  have c_VX_6 := blk_cell VX.out 6 _ rfl
  have f_VX_6 := blk_frozen VX.out 6
  have c_VX_7 := blk_cell VX.out 7 _ rfl
  have f_VX_7 := blk_frozen VX.out 7
  have l_VX := blk_lt VX.out
  gi_wp2_with (gi_at_builtin; refine wpListIn_app1 rfl _ _ rfl W0.heap.size _ t rfl (some ⟨wp.heap.size + 1, 0, none⟩) r rfl (O9.out.alloc _) (RT.one (blk_at _ (by simp))) ?_ ?_ ?_; omega; (rw [World.size_alloc]; have := SW.out; omega); intro A1 c1 w1 o1 q1 k1; have B1 := Lib.hid (((Below.refl W0.heap.size (wp.alloc (.cells #[.int .i64 r.t, .int .i64 r.c, .int .i64 r.i, .int .i64 r.j, .int .i64 r.re, .int .i64 r.im, .int .i64 r.dn, .int .i64 r.n] 44))).alloc SW.out _).trans q1); have O1 := Lib.hid o1; have K1 := Lib.hid (KF.out.trans (((KeepsOthers.alloc (wp.alloc (.cells #[.int .i64 r.t, .int .i64 r.c, .int .i64 r.i, .int .i64 r.j, .int .i64 r.re, .int .i64 r.im, .int .i64 r.dn, .int .i64 r.n] 44)) _).trans k1).from W0.heap.size)); have V91 := Lib.hid (blk_B B1.out V9.out (by omega)); have c9a := blk_cell V91.out 0 (.slice A9 t.length c9) rfl; have f9a := blk_frozen V91.out 0; have l9a := blk_lt V91.out; clear o1 q1 k1)
  clear c_V9_0 f_V9_0 l_V9 c_VX_0 f_VX_0 c_VX_1 f_VX_1 c_VX_2 f_VX_2 c_VX_3 f_VX_3 c_VX_4 f_VX_4 c_VX_5 f_VX_5 c_VX_6 f_VX_6 c_VX_7 f_VX_7 l_VX
  clear c9a f9a l9a V91
  replace V2 := Lib.hid (blk_B B1.out V2.out (by omega))
  replace V3 := Lib.hid (blk_B B1.out V3.out (by omega))
  replace V9 := Lib.hid (blk_B B1.out V9.out (by omega))
  replace NN := Lib.hid (NN.out.trans (B1.out.mono (by omega)))
  replace KF := K1
  clear VX LT_VX
  replace KF := Lib.hid (keep_set (KF.out) (g2) 0 (.slice A1 (t.length + 1) c1))
  replace O1 := Lib.hid (OR.set_other (O1.out) (show g2 < W0.heap.size by omega) 0 (.slice A1 (t.length + 1) c1))
  replace V2 : Hid ((w1.setCell ⟨g2, 0, none⟩ (.slice A1 (t.length + 1) c1)).heap[w.heap.size]? = some (.cells #[.slice none 0 0] 22)) := Lib.hid (blk_set_other (b' := g2) (V2.out) (by omega) 0 (.slice A1 (t.length + 1) c1))
  replace V3 : Hid ((w1.setCell ⟨g2, 0, none⟩ (.slice A1 (t.length + 1) c1)).heap[w.heap.size + 1]? = some (.cells #[.int .i64 0] 24)) := Lib.hid (blk_set_other (b' := g2) (V3.out) (by omega) 0 (.slice A1 (t.length + 1) c1))
  replace V9 : Hid ((w1.setCell ⟨g2, 0, none⟩ (.slice A1 (t.length + 1) c1)).heap[g2]? = some (.cells #[.slice A1 (t.length + 1) c1] 22)) := Lib.hid (blk_set (V9.out) 0 (.slice A1 (t.length + 1) c1))
  replace NN := Lib.hid (Bset1 (NN.out) (show w.heap.size ≤ g2 by omega) 0 (.slice A1 (t.length + 1) c1))
  generalize (w1.setCell ⟨g2, 0, none⟩ (.slice A1 (t.length + 1) c1)) = W6 at *
  refine ⟨KF.out, below_mid nn NN.out KF.out.size, V2.out, V3.out, NN.out, by have := KF.out.size; omega, t ++ [r], A1, c1, TA8.out, ?_, ?_, ?_⟩
  ·rw [List.length_append, List.length_singleton]; omega
  ·rw [List.length_append, List.length_singleton]; exact V9.out
  ·rw [List.length_append, List.length_singleton]; exact O1.out
 case done =>
  rintro D W hD ⟨v2, v3, nn, sz, t, A9, c9, h1, h2, v9, o9⟩ hK
  have hz9 := SZ.out
  have hg := LG.out
  rw [List.take_length] at h1
  have PF := Lib.hid (HB3.out t h1)
  have O9 := Lib.hid o9
  have HK := Lib.hid hK
  have TX := Lib.hid (txE_ok (t := t) (s := s) h0)
  obtain ⟨A8, c8, hv8, hc8, hc8', hrt, hap⟩ := OR.form o9
  injection hv8 with e1 e2 e3
  subst e1 e3
  clear e2 h1 hK HB1 HB2 HB3 HW o9
  have NN := Lib.hid nn
  have V2 := Lib.hid v2
  have V3 := Lib.hid v3
  have V9 := Lib.hid v9
  clear v2 v3 v9
  have c_V9_0 := blk_cell V9.out 0 _ rfl
  have f_V9_0 := blk_frozen V9.out 0
  have l_V9 := blk_lt V9.out
  gi_wp2_with fail
  clear c_V9_0 f_V9_0 l_V9
  refine ⟨trivial, rfl, ((callsIn_wide (n := 0)).2 (ttext_calls hrt hap hc8 hc8' (GG.out _ NN.out))).mono ?_⟩
  rintro e wt ⟨rfl, hb⟩
  replace NN := Lib.hid (Bgo NN.out hb)
  replace HK := Lib.hid (blk_next hb HK.out)
  replace O9 := Lib.hid (OR.next O9.out hb)
  replace V2 := Lib.hid (blk_next hb V2.out)
  replace V3 := Lib.hid (blk_next hb V3.out)
  replace V9 := Lib.hid (blk_next hb V9.out)
  clear hb hrt hap hc8 hc8'
  by_cases hx : txE t = 0 ∧ txO t = s
  ·have E0 := Lib.hid (PS.out t (by rw [PF.out]; exact if_pos (TX.out.1 hx)))
   obtain ⟨x1, x2⟩ := hx
   rw [x1, x2]
   clear x1 x2 PF PN PS TX
   have q8 : (s == s) = true := beq_self_eq_true _
   have c_V2_0 := blk_cell V2.out 0 _ rfl
   have f_V2_0 := blk_frozen V2.out 0
   have l_V2 := blk_lt V2.out
   have c_V3_0 := blk_cell V3.out 0 _ rfl
   have f_V3_0 := blk_frozen V3.out 0
   have l_V3 := blk_lt V3.out
   have c_V9_0 := blk_cell V9.out 0 _ rfl
   have f_V9_0 := blk_frozen V9.out 0
   have l_V9 := blk_lt V9.out
   gi_wp2_with fail
   clear c_V2_0 f_V2_0 l_V2 c_V3_0 f_V3_0 l_V3 c_V9_0 f_V9_0 l_V9
   replace HK := Lib.hid (blk_set_other (b' := w.heap.size + 1) (blk_set_other (b' := w.heap.size) HK.out (by omega) 0 (.slice A9 t.length c9)) (by omega) 0 (.int .i64 0))
   replace O9 := Lib.hid (OR.set_other (OR.set_other (O9.out) (show w.heap.size < W0.heap.size by omega) 0 (.slice A9 t.length c9)) (show w.heap.size + 1 < W0.heap.size by omega) 0 (.int .i64 0))
   replace V2 : Hid (((wt.setCell ⟨w.heap.size, 0, none⟩ (.slice A9 t.length c9)).setCell ⟨w.heap.size + 1, 0, none⟩ (.int .i64 0)).heap[w.heap.size]? = some (.cells #[.slice A9 t.length c9] 22)) := Lib.hid (blk_set_other (b' := w.heap.size + 1) (blk_set (V2.out) 0 (.slice A9 t.length c9)) (by omega) 0 (.int .i64 0))
   replace V3 : Hid (((wt.setCell ⟨w.heap.size, 0, none⟩ (.slice A9 t.length c9)).setCell ⟨w.heap.size + 1, 0, none⟩ (.int .i64 0)).heap[w.heap.size + 1]? = some (.cells #[.int .i64 0] 24)) := Lib.hid (blk_set (blk_set_other (b' := w.heap.size) (V3.out) (by omega) 0 (.slice A9 t.length c9)) 0 (.int .i64 0))
   replace V9 : Hid (((wt.setCell ⟨w.heap.size, 0, none⟩ (.slice A9 t.length c9)).setCell ⟨w.heap.size + 1, 0, none⟩ (.int .i64 0)).heap[g2]? = some (.cells #[.slice A9 t.length c9] 22)) := Lib.hid (blk_set_other (b' := w.heap.size + 1) (blk_set_other (b' := w.heap.size) (V9.out) (by omega) 0 (.slice A9 t.length c9)) (by omega) 0 (.int .i64 0))
   replace NN := Lib.hid (Bset1 (Bset1 (NN.out) (show w.heap.size ≤ w.heap.size by omega) 0 (.slice A9 t.length c9)) (show w.heap.size ≤ w.heap.size + 1 by omega) 0 (.int .i64 0))
   generalize ((wt.setCell ⟨w.heap.size, 0, none⟩ (.slice A9 t.length c9)).setCell ⟨w.heap.size + 1, 0, none⟩ (.int .i64 0)) = W1 at *
   refine ⟨by simp, .inl ⟨_, _, rfl, run_takeDeferred HK.out, ?_⟩⟩
   have e0 := blk_cell (put_blk (D := D) (o' := .deferred none) V2.out (by omega)) 0 (.slice A9 t.length c9) rfl
   have e1 := blk_cell (put_blk (D := D) (o' := .deferred none) V3.out (by omega)) 0 (.int .i64 0) rfl
   exact ⟨.tuple #[.slice A9 t.length c9, .int .i64 0], by simp [results, Tryz.results11, go_sem, e0, e1], ⟨_, by rw [E0.out.1], put_below NN.out (by omega) (Nat.le_refl _) HK.out, by rw [E0.out.2]; exact ownsRow_putObj (OR.mono O9.out (by omega)) _ HK.out rfl⟩⟩
  by_cases h1 : txE t = 0
  ·have h2 : txO t ≠ s := fun h => hx ⟨h1, h⟩
   have q7 : (txE t != 0) = false := by rw [h1]; rfl
   have q8 : (txO t == s) = false := by rw [beq_eq_false_iff_ne]; exact h2
   have HX := hx
   clear h1 h2
   have E0 := Lib.hid (PN.out (by rw [PF.out]; exact if_neg (fun h => hx (TX.out.2 h))))
   clear PF PN PS
   have c_V2_0 := blk_cell V2.out 0 _ rfl
   have f_V2_0 := blk_frozen V2.out 0
   have l_V2 := blk_lt V2.out
   have c_V3_0 := blk_cell V3.out 0 _ rfl
   have f_V3_0 := blk_frozen V3.out 0
   have l_V3 := blk_lt V3.out
   gi_wp2_with fail
   clear c_V2_0 f_V2_0 l_V2 c_V3_0 f_V3_0 l_V3
   replace HK := Lib.hid (blk_set_other (b' := w.heap.size + 1) (blk_set_other (b' := w.heap.size) HK.out (by omega) 0 (.slice none 0 0)) (by omega) 0 (.int .i64 12))
   replace V2 : Hid (((wt.setCell ⟨w.heap.size, 0, none⟩ (.slice none 0 0)).setCell ⟨w.heap.size + 1, 0, none⟩ (.int .i64 12)).heap[w.heap.size]? = some (.cells #[.slice none 0 0] 22)) := Lib.hid (blk_set_other (b' := w.heap.size + 1) (blk_set (V2.out) 0 (.slice none 0 0)) (by omega) 0 (.int .i64 12))
   replace V3 : Hid (((wt.setCell ⟨w.heap.size, 0, none⟩ (.slice none 0 0)).setCell ⟨w.heap.size + 1, 0, none⟩ (.int .i64 12)).heap[w.heap.size + 1]? = some (.cells #[.int .i64 12] 24)) := Lib.hid (blk_set (blk_set_other (b' := w.heap.size) (V3.out) (by omega) 0 (.slice none 0 0)) 0 (.int .i64 12))
   replace V9 : Hid (((wt.setCell ⟨w.heap.size, 0, none⟩ (.slice none 0 0)).setCell ⟨w.heap.size + 1, 0, none⟩ (.int .i64 12)).heap[g2]? = some (.cells #[.slice A9 t.length c9] 22)) := Lib.hid (blk_set_other (b' := w.heap.size + 1) (blk_set_other (b' := w.heap.size) (V9.out) (by omega) 0 (.slice none 0 0)) (by omega) 0 (.int .i64 12))
   replace NN := Lib.hid (Bset1 (Bset1 (NN.out) (show w.heap.size ≤ w.heap.size by omega) 0 (.slice none 0 0)) (show w.heap.size ≤ w.heap.size + 1 by omega) 0 (.int .i64 12))
   generalize ((wt.setCell ⟨w.heap.size, 0, none⟩ (.slice none 0 0)).setCell ⟨w.heap.size + 1, 0, none⟩ (.int .i64 12)) = W2 at *
   refine ⟨by simp, .inl ⟨_, _, rfl, run_takeDeferred HK.out, ?_⟩⟩
   have e0 := blk_cell (put_blk (D := D) (o' := .deferred none) V2.out (by omega)) 0 (.slice none 0 0) rfl
   have e1 := blk_cell (put_blk (D := D) (o' := .deferred none) V3.out (by omega)) 0 (.int .i64 12) rfl
   exact ⟨.tuple #[.slice none 0 0, .int .i64 12], by simp [results, Tryz.results11, go_sem, e0, e1], ⟨_, by rw [E0.out.1], put_below NN.out (by omega) (Nat.le_refl _) HK.out, by rw [E0.out.2]; exact OR.nil _ _⟩⟩
  ·have q7 : (txE t != 0) = true := by rw [bne_iff_ne]; exact h1
   clear h1
   have E0 := Lib.hid (PN.out (by rw [PF.out]; exact if_neg (fun h => hx (TX.out.2 h))))
   clear PF PN PS
   have c_V2_0 := blk_cell V2.out 0 _ rfl
   have f_V2_0 := blk_frozen V2.out 0
   have l_V2 := blk_lt V2.out
   have c_V3_0 := blk_cell V3.out 0 _ rfl
   have f_V3_0 := blk_frozen V3.out 0
   have l_V3 := blk_lt V3.out
   gi_wp2_with fail
   clear c_V2_0 f_V2_0 l_V2 c_V3_0 f_V3_0 l_V3
   replace HK := Lib.hid (blk_set_other (b' := w.heap.size + 1) (blk_set_other (b' := w.heap.size) HK.out (by omega) 0 (.slice none 0 0)) (by omega) 0 (.int .i64 12))
   replace V2 : Hid (((wt.setCell ⟨w.heap.size, 0, none⟩ (.slice none 0 0)).setCell ⟨w.heap.size + 1, 0, none⟩ (.int .i64 12)).heap[w.heap.size]? = some (.cells #[.slice none 0 0] 22)) := Lib.hid (blk_set_other (b' := w.heap.size + 1) (blk_set (V2.out) 0 (.slice none 0 0)) (by omega) 0 (.int .i64 12))
   replace V3 : Hid (((wt.setCell ⟨w.heap.size, 0, none⟩ (.slice none 0 0)).setCell ⟨w.heap.size + 1, 0, none⟩ (.int .i64 12)).heap[w.heap.size + 1]? = some (.cells #[.int .i64 12] 24)) := Lib.hid (blk_set (blk_set_other (b' := w.heap.size) (V3.out) (by omega) 0 (.slice none 0 0)) 0 (.int .i64 12))
   replace V9 : Hid (((wt.setCell ⟨w.heap.size, 0, none⟩ (.slice none 0 0)).setCell ⟨w.heap.size + 1, 0, none⟩ (.int .i64 12)).heap[g2]? = some (.cells #[.slice A9 t.length c9] 22)) := Lib.hid (blk_set_other (b' := w.heap.size + 1) (blk_set_other (b' := w.heap.size) (V9.out) (by omega) 0 (.slice none 0 0)) (by omega) 0 (.int .i64 12))
   replace NN := Lib.hid (Bset1 (Bset1 (NN.out) (show w.heap.size ≤ w.heap.size by omega) 0 (.slice none 0 0)) (show w.heap.size ≤ w.heap.size + 1 by omega) 0 (.int .i64 12))
   generalize ((wt.setCell ⟨w.heap.size, 0, none⟩ (.slice none 0 0)).setCell ⟨w.heap.size + 1, 0, none⟩ (.int .i64 12)) = W3 at *
   refine ⟨by simp, .inl ⟨_, _, rfl, run_takeDeferred HK.out, ?_⟩⟩
   have e0 := blk_cell (put_blk (D := D) (o' := .deferred none) V2.out (by omega)) 0 (.slice none 0 0) rfl
   have e1 := blk_cell (put_blk (D := D) (o' := .deferred none) V3.out (by omega)) 0 (.int .i64 12) rfl
   exact ⟨.tuple #[.slice none 0 0, .int .i64 12], by simp [results, Tryz.results11, go_sem, e0, e1], ⟨_, by rw [E0.out.1], put_below NN.out (by omega) (Nat.le_refl _) HK.out, by rw [E0.out.2]; exact OR.nil _ _⟩⟩
 case stop =>
  rintro D cd k W hD hlt ⟨rfl, hp, v2, v3, nn⟩ hK
  have hDs := SZ.out
  have hg := LG.out
  have E0 := Lib.hid (PN.out hp)
  have V2 := Lib.hid v2
  have V3 := Lib.hid v3
  have NN := Lib.hid nn
  have HK := Lib.hid hK
  clear PN PS HB1 HB2 HB3 HW v2 v3 nn hK hp
  gi_wp2
  refine ⟨by simp, .inl ⟨_, _, rfl, run_takeDeferred HK.out, ?_⟩⟩
  have e0 := blk_cell (put_blk (D := D) (o' := .deferred none) V2.out (by omega)) 0 (.slice none 0 0) rfl
  have e1 := blk_cell (put_blk (D := D) (o' := .deferred none) V3.out (by omega)) 0 (.int .i64 12) rfl
  exact ⟨.tuple #[.slice none 0 0, .int .i64 12], by simp [results, Tryz.results11, go_sem, e0, e1], ⟨_, by rw [E0.out.1], put_below NN.out (by omega) (Nat.le_refl _) HK.out, by rw [E0.out.2]; exact OR.nil _ _⟩⟩
end Go.Proofs.YtbbnkclajpaghaaGreatDoor
namespace Go.Proofs.YtbbnkclajpaghaaGreatDoor
open Go.ChangeShapes Go.WideShapes Go.ChangeAt Go.RowKit
set_option linter.unusedVariables false
set_option maxRecDepth 100000
set_option linter.unusedSimpArgs false
attribute [local go_sem] Oper.semAt_some
abbrev RB (w : World) (A : Option Addr) (b : List Bool) : Prop := Rd w 1 A b.length (b.map Value.bool)
theorem RB.at_ {w : World} {A : Option Addr} {b : List Bool} (h : RB w A b) {q : Nat} (hq : q < b.length) : ∃ bb off, A = some ⟨bb, off, none⟩ ∧ bb < w.heap.size ∧ w.cell? ⟨bb, off + q, none⟩ = some (.bool (b.getD q false)) := by
 obtain ⟨bb, off, e, hl, hc⟩ := h.2 (by omega)
 refine ⟨bb, off, e, hl, hc q _ ?_⟩
 simp [List.getD, hq]
end Go.Proofs.YtbbnkclajpaghaaGreatDoor
namespace Go.Proofs.YtbbnkclajpaghaaGreatDoor
open Go.ChangeShapes Go.WideShapes Go.ChangeAt Go.RowKit
set_option linter.unusedVariables false
set_option maxRecDepth 100000
set_option linter.unusedSimpArgs false
set_option maxRecDepth 100000 in
set_option maxHeartbeats 4000000 in
theorem same_calls {A B : Option Addr} {ca cb : Nat} {l : List Vr} {w : World} (ha : RT w A l) (hb : RT w B l) (h1 : l.length ≤ ca) (h2 : l.length ≤ cb) (hn : l.length ≤ 1000000) : Calls Tryz.prog 13 #[.slice A l.length ca, .slice B l.length cb] w fun e w' =>
  e = .returned (.bool true) ∧ Below w.heap.size w w' := by
 have HA := Lib.hid ha
 have HB := Lib.hid hb
 have NN := Lib.hid (Below.refl w.heap.size w)
 clear ha hb
 go_enter Tryz.func13, Tryz.ntmps13
 go_wp2_with fail
 go_loopw [5] (fun p wr => ∃ k m : Nat, k ≤ l.length ∧ p = .int .i64 (k : Int) ∧ wr = w.drewN m) (fun p _ => l.length - (intOf p).toNat)
 case atStart => exact ⟨0, 0, Nat.zero_le _, rfl, rfl⟩
 case round =>
  obtain ⟨k, m, hk, rfl, rfl⟩ := hrel
  by_cases hlt : l.length ≤ k
  ·have e : k = l.length := by omega
   subst e
   go_wp2_with fail
   go_ret
   exact ⟨rfl, below_drewN NN.out _⟩
  replace hlt : k < l.length := by omega
  obtain ⟨b, bo, eb, bl, a0, a1, a2, a3, a4, a5, a6, a7⟩ := RT.at_ HA.out hlt
  rw [← rowAt_lt hlt] at a0 a1 a2 a3 a4 a5 a6 a7
  subst eb
  obtain ⟨z, zo, ez, zl, g0, g1, g2, g3, g4, g5, g6, g7⟩ := RT.at_ HB.out hlt
  rw [← rowAt_lt hlt] at g0 g1 g2 g3 g4 g5 g6 g7
  subst ez
  generalize rowAt l k = s at *
  have k1 : k < ca := by omega
  have k2 : k < cb := by omega
  go_wp2_with fail
  go_quiet (fail)
  go_wp2_with fail
  refine ⟨⟨k + 1, m + nq, by omega, by go_num, rfl⟩, by simp [intOf]; omega⟩
def longB (n : Nat) : Bool := (decide (60 < n) && decide (n ≤ 200)) || decide (300 < n)
theorem long_calls (A : Option Addr) (n c : Nat) (w : World) : Calls Tryz.prog 8 #[.slice A n c] w fun e w' => e = .returned (.bool (longB n)) ∧ Below w.heap.size w w' := by
 have NN := Lib.hid (Below.refl w.heap.size w)
 have hc : n ≤ 60 ∨ (60 < n ∧ n ≤ 200) ∨ (200 < n ∧ n ≤ 300) ∨ 300 < n := by omega
 generalize hv : longB n = v
 unfold longB at hv
 have HV := Lib.hid hv
 clear hv
 rcases hc with h | ⟨h, h'⟩ | ⟨h, h'⟩ | h
 ·have F : Hid (v = false) := Lib.hid (by rw [← HV.out, decide_eq_false (by omega : ¬ 60 < n), decide_eq_false (by omega : ¬ 300 < n)]; rfl)
  clear HV
  have q1 : decide ((60 : Int) < (n : Int)) = false := decide_eq_false (by omega)
  have q3 : decide ((300 : Int) < (n : Int)) = false := decide_eq_false (by omega)
  go_enter Tryz.func8, Tryz.ntmps8
  go_wp2_with fail
  all_goals first | (exfalso; omega; done) | (go_ret; refine ⟨ret_bool ?_, NN.out⟩; rw [F.out])
 ·have F : Hid (v = true) := Lib.hid (by rw [← HV.out, decide_eq_true h, decide_eq_true h']; rfl)
  clear HV
  have q1 : decide ((60 : Int) < (n : Int)) = true := decide_eq_true (by omega)
  have q2 : decide ((n : Int) ≤ 200) = true := decide_eq_true (by omega)
  have q3 : decide ((300 : Int) < (n : Int)) = false := decide_eq_false (by omega)
  go_enter Tryz.func8, Tryz.ntmps8
  go_wp2_with fail
  all_goals first | (exfalso; omega; done) | (go_ret; refine ⟨ret_bool ?_, NN.out⟩; rw [F.out])
 ·have F : Hid (v = false) := Lib.hid (by rw [← HV.out, decide_eq_false (by omega : ¬ n ≤ 200), decide_eq_false (by omega : ¬ 300 < n)]; simp)
  clear HV
  have q1 : decide ((60 : Int) < (n : Int)) = true := decide_eq_true (by omega)
  have q2 : decide ((n : Int) ≤ 200) = false := decide_eq_false (by omega)
  have q3 : decide ((300 : Int) < (n : Int)) = false := decide_eq_false (by omega)
  go_enter Tryz.func8, Tryz.ntmps8
  go_wp2_with fail
  all_goals first | (exfalso; omega; done) | (go_ret; refine ⟨ret_bool ?_, NN.out⟩; rw [F.out])
 ·have F : Hid (v = true) := Lib.hid (by rw [← HV.out, decide_eq_true h]; simp)
  clear HV
  have q1 : decide ((60 : Int) < (n : Int)) = true := decide_eq_true (by omega)
  have q2 : decide ((n : Int) ≤ 200) = false := decide_eq_false (by omega)
  have q3 : decide ((300 : Int) < (n : Int)) = true := decide_eq_true (by omega)
  go_enter Tryz.func8, Tryz.ntmps8
  go_wp2_with fail
  all_goals first | (exfalso; omega; done) | (go_ret; refine ⟨ret_bool ?_, NN.out⟩; rw [F.out])
end Go.Proofs.YtbbnkclajpaghaaGreatDoor
namespace Go.Proofs.YtbbnkclajpaghaaGreatDoor
open Go.ChangeShapes Go.WideShapes Go.ChangeAt Go.RowKit
set_option linter.unusedVariables false
set_option linter.unusedSimpArgs false
attribute [local go_sem ↓] Go.wp_at_zero Go.wp_at_succ
theorem pa_len (s : List UInt8) : (paL s).length ≤ 200 := by
 by_cases h0 : 20000 < s.length
 ·rw [(pa_long h0).2]; exact Nat.zero_le _
 ·cases h : parP s with
  | none => rw [(pa_none h0 h).2]; exact Nat.zero_le _
  | some t => rw [(pa_some h0 h).2]; exact (chk_rows (parP_some h).1).1
theorem tx_back {l : List Vr} (h : txE l = 0) : paE (txO l) = 0 ∧ paL (txO l) = l := by
 have h2 : chkE l = 0 ∧ ¬ 20000 < (txT l).length := by
  unfold txE at h
  split at h
  ·rename_i h'; exact absurd h h'
  ·split at h
   ·cases h
   ·rename_i h1 h3; exact ⟨by simpa using h1, h3⟩
 have h3 : txO l = txT l := by unfold txO; rw [if_pos h]
 rw [h3]
 exact pa_some h2.2 (parP_text h2.1)
theorem pa_back {s : List UInt8} (h : paE s = 0) : txE (paL s) = 0 ∧ txO (paL s) = s := by
 by_cases h0 : 20000 < s.length
 ·rw [(pa_long h0).1] at h; cases h
 ·cases hp : parP s with
  | none => rw [(pa_none h0 hp).1] at h; cases h
  | some t =>
   rw [(pa_some h0 hp).2]
   have := parP_some hp
   have h1 : txE t = 0 := by unfold txE; rw [if_neg (by simp [this.1]), this.2, if_neg h0]
   exact ⟨h1, by unfold txO; rw [if_pos h1]; exact this.2⟩
theorem txO_len (l : List Vr) : (txO l).length ≤ 20000 := by
 unfold txO
 by_cases h : txE l = 0
 ·rw [if_pos h]
  unfold txE at h
  split at h
  ·rename_i h'; exact absurd h h'
  ·split at h
   ·cases h
   ·omega
 ·rw [if_neg h]; exact Nat.zero_le _
theorem rparse_of (l : List UInt8) (w : World) (hl : l.length ≤ 30000) : Calls Tryz.prog 12 #[Str l] w fun e w' => ∃ v, e = .returned (.tuple #[v, .int .i64 (paE l)]) ∧ Below w.heap.size w w' ∧ OR w.heap.size w' v (paL l) := by
 have := rparse_calls ⟨l.toArray⟩ w (show l.toArray.size ≤ 30000 by simpa using hl)
 simp only [List.toList_toArray] at this
 exact this
structure HR (W : World) (v : Value) (l : List Vr) : Prop where
 ex : ∃ A c, v = .slice A l.length c ∧ l.length ≤ c ∧ c ≤ 9223372036854775807 ∧ RT W A l ∧ ∀ b off, A = some ⟨b, off, none⟩ → b < W.heap.size
theorem OR.hr {B : Nat} {W : World} {v : Value} {l : List Vr} (h : OR B W v l) : HR W v l := ⟨by obtain ⟨A, c, h1, h2, h3, h4, h5⟩ := OR.form h; exact ⟨A, c, h1, h2, h3, h4, h5⟩⟩
theorem HR.next {W W' : World} {v : Value} {l : List Vr} (h : HR W v l) (hb : Below W.heap.size W W') : HR W' v l := ⟨by obtain ⟨A, c, h1, h2, h3, h4, h5⟩ := h.ex; exact ⟨A, c, h1, h2, h3, h4.next hb, fun b off e => Nat.lt_of_lt_of_le (h5 b off e) hb.size⟩⟩
theorem same_of {W : World} {v u : Value} {l : List Vr} (h : HR W v l) (k : HR W u l) (hn : l.length ≤ 1000000) : Calls Tryz.prog 13 #[v, u] W fun e w' => e = .returned (.bool true) ∧ Below W.heap.size W w' := by
 obtain ⟨A, c, rfl, h2, h3, h4, h5⟩ := h.ex
 obtain ⟨A', c', rfl, k2, k3, k4, k5⟩ := k.ex
 exact same_calls h4 k4 h2 k2 hn
theorem text_of {W : World} {v : Value} {l : List Vr} (h : HR W v l) (g : GL W) : Calls Tryz.prog 9 #[v] W fun e w' => e = .returned (.tuple #[Str (txO l), .int .i64 (txE l)]) ∧ Below W.heap.size W w' := by
 obtain ⟨A, c, rfl, h2, h3, h4, h5⟩ := h.ex
 exact ttext_calls h4 h5 h2 h3 g
set_option maxRecDepth 100000 in
set_option maxHeartbeats 8000000 in
theorem lstrings_calls {A : Option Addr} {c : Nat} {l : List Vr} {w : World} (hl : RT w A l) (hA : ∀ b off, A = some ⟨b, off, none⟩ → b < w.heap.size) (hc : l.length ≤ c) (hc' : c ≤ 9223372036854775807) (str : ByteArray) (hs : str.size ≤ 9223372036854775807) (g : GL w) : Calls Tryz.prog 3 #[.slice A l.length c, .string str] w fun e w' => e = .returned (.bool true) ∧ Below w.heap.size w w' := by
 obtain ⟨s, rfl⟩ : ∃ s : List UInt8, str = ⟨s.toArray⟩ := ⟨str.data.toList, by cases str; simp⟩
 have hz : (⟨s.toArray⟩ : ByteArray).size = s.length := by show s.toArray.size = _; simp
 rw [hz] at hs
 have NN := Lib.hid (Below.refl w.heap.size w)
 have GG := Lib.hid (fun W (h : Below w.heap.size w W) => g.next h)
 have LC := Lib.hid (fun W => long_calls A l.length c W)
 have RX := Lib.hid (fun W (h : Below w.heap.size w W) => rtxt_calls (hl.next h) hc hc')
 have H0 : Hid (HR w (.slice A l.length c) l) := Lib.hid ⟨⟨A, c, rfl, hc, hc', hl, hA⟩⟩
 have PLn := Lib.hid (pa_len s)
 have TLn := Lib.hid (txO_len l)
 have TB := Lib.hid (fun h => tx_back (l := l) h)
 have PB := Lib.hid (fun h => pa_back (s := s) h)
 clear hl hA g
 generalize hv : longB l.length = v at *
 cases v with
 | true =>
  clear hs
  go_enter Tryz.func3, Tryz.ntmps3
  go_wp2_with fail
  refine (LC.out _).mono ?_
  rintro e w1 ⟨rfl, hb⟩
  replace NN := Lib.hid (Bgo NN.out hb)
  clear hb
  go_wp2_with fail
  go_ret
  exact ⟨rfl, NN.out⟩
 | false =>
  have L3 : l.length ≤ 300 := by unfold longB at hv; simp at hv; omega
  have hc5 : s.length ≤ 3000 ∨ (3000 < s.length ∧ s.length ≤ 20000) ∨ (20000 < s.length ∧ s.length ≤ 30000) ∨ 30000 < s.length := by omega
  go_enter Tryz.func3, Tryz.ntmps3
  go_wp2_with fail
  refine (LC.out _).mono ?_
  rintro e w1 ⟨rfl, hb⟩
  replace NN := Lib.hid (Bgo NN.out hb)
  replace H0 := Lib.hid (HR.next H0.out hb)
  clear hb
  clear LC
  rcases hc5 with h | ⟨h, h'⟩ | ⟨h, h'⟩ | h
  ·have H30 : s.length ≤ 30000 := by omega
   have d1 : decide ((3000 : Int) < (s.length : Int)) = false := decide_eq_false (by omega)
   have d3 : decide ((30000 : Int) < (s.length : Int)) = false := decide_eq_false (by omega)
   go_upto_region 3 with fail
   clear d1 d3
   go_wp2_with fail
   refine (text_of H0.out (GG.out _ NN.out)).mono ?_
   rintro e w2 ⟨rfl, hb⟩
   replace NN := Lib.hid (Bgo NN.out hb)
   replace H0 := Lib.hid (HR.next H0.out hb)
   clear hb
   obtain ⟨te, hte⟩ : ∃ te, txE l = te := ⟨_, rfl⟩
   rw [hte] at RX TB ⊢
   obtain ⟨tx, htx⟩ : ∃ tx, txO l = tx := ⟨_, rfl⟩
   rw [htx] at RX TB TLn ⊢
   clear hte htx
   go_wp2_with fail
   refine (RX.out _ NN.out).mono ?_
   rintro e w3 ⟨rfl, hb⟩
   replace NN := Lib.hid (Bgo NN.out hb)
   replace H0 := Lib.hid (HR.next H0.out hb)
   clear hb
   go_wp2_with fail
   refine (tparse_calls s (by omega) _ (GG.out _ NN.out)).mono ?_
   rintro e w4 ⟨v1, rfl, hb, ho1⟩
   have X1 := Lib.hid ho1.hr
   clear ho1
   replace NN := Lib.hid (Bgo NN.out hb)
   replace H0 := Lib.hid (HR.next H0.out hb)
   clear hb
   obtain ⟨pe, hpe⟩ : ∃ pe, paE s = pe := ⟨_, rfl⟩
   rw [hpe]
   have HPE := Lib.hid hpe
   clear hpe
   go_wp2_with fail
   refine (rparse_of s _ H30).mono ?_
   rintro e w5 ⟨v2, rfl, hb, ho2⟩
   have X2 := Lib.hid ho2.hr
   clear ho2
   replace NN := Lib.hid (Bgo NN.out hb)
   replace H0 := Lib.hid (HR.next H0.out hb)
   replace X1 := Lib.hid (HR.next X1.out hb)
   clear hb
   rw [HPE.out]
   have qs : (tx == tx) = true := beq_self_eq_true _
   go_wp2_with fail
   refine (same_of X1.out X2.out (Nat.le_trans PLn.out (by decide))).mono ?_
   rintro e w6 ⟨rfl, hb⟩
   replace NN := Lib.hid (Bgo NN.out hb)
   replace H0 := Lib.hid (HR.next H0.out hb)
   replace X1 := Lib.hid (HR.next X1.out hb)
   replace X2 := Lib.hid (HR.next X2.out hb)
   clear hb
   clear X2
   by_cases h1 : te = 0
   ·subst h1
    obtain ⟨b1, b2⟩ := TB.out rfl
    clear TB
    go_wp2_with fail
    refine (tparse_calls tx (Nat.le_trans TLn.out (by decide)) _ (GG.out _ NN.out)).mono ?_
    rintro e w7 ⟨v3, rfl, hb, ho3⟩
    rw [b1]
    rw [b2] at ho3
    have X3 := Lib.hid ho3.hr
    clear ho3 b1 b2
    replace NN := Lib.hid (Bgo NN.out hb)
    replace H0 := Lib.hid (HR.next H0.out hb)
    replace X1 := Lib.hid (HR.next X1.out hb)
    clear hb
    go_wp2_with fail
    refine (same_of X3.out H0.out (Nat.le_trans L3 (by decide))).mono ?_
    rintro e w8 ⟨rfl, hb⟩
    replace NN := Lib.hid (Bgo NN.out hb)
    replace H0 := Lib.hid (HR.next H0.out hb)
    replace X1 := Lib.hid (HR.next X1.out hb)
    replace X3 := Lib.hid (HR.next X3.out hb)
    clear hb
    by_cases h2 : pe = 0
    ·subst h2
     obtain ⟨c1, c2⟩ := PB.out HPE.out
     clear PB
     go_wp2_with fail
     refine (text_of X1.out (GG.out _ NN.out)).mono ?_
     rintro e w9 ⟨rfl, hb⟩
     replace NN := Lib.hid (Bgo NN.out hb)
     replace H0 := Lib.hid (HR.next H0.out hb)
     replace X1 := Lib.hid (HR.next X1.out hb)
     replace X3 := Lib.hid (HR.next X3.out hb)
     clear hb
     rw [c1, c2]
     have qs2 : (s == s) = true := beq_self_eq_true _
     go_wp2_with fail
     go_ret
     exact ⟨rfl, NN.out⟩
    ·have q2 : (pe == 0) = false := by rw [beq_eq_false_iff_ne]; exact h2
     clear h2 PB HPE
     go_wp2_with fail
     go_ret
     exact ⟨rfl, NN.out⟩
   ·have q1 : (te == 0) = false := by rw [beq_eq_false_iff_ne]; exact h1
    clear h1 TB
    by_cases h2 : pe = 0
    ·subst h2
     obtain ⟨c1, c2⟩ := PB.out HPE.out
     clear PB
     go_wp2_with fail
     refine (text_of X1.out (GG.out _ NN.out)).mono ?_
     rintro e w10 ⟨rfl, hb⟩
     replace NN := Lib.hid (Bgo NN.out hb)
     replace H0 := Lib.hid (HR.next H0.out hb)
     replace X1 := Lib.hid (HR.next X1.out hb)
     clear hb
     rw [c1, c2]
     have qs2 : (s == s) = true := beq_self_eq_true _
     go_wp2_with fail
     go_ret
     exact ⟨rfl, NN.out⟩
    ·have q2 : (pe == 0) = false := by rw [beq_eq_false_iff_ne]; exact h2
     clear h2 PB HPE
     go_wp2_with fail
     go_ret
     exact ⟨rfl, NN.out⟩
  ·have d1 : decide ((3000 : Int) < (s.length : Int)) = true := decide_eq_true (by omega)
   have d2 : decide ((s.length : Int) ≤ 20000) = true := decide_eq_true (by omega)
   go_wp2_with fail
   go_ret
   exact ⟨rfl, NN.out⟩
  ·have H30 : s.length ≤ 30000 := by omega
   have d1 : decide ((3000 : Int) < (s.length : Int)) = true := decide_eq_true (by omega)
   have d2 : decide ((s.length : Int) ≤ 20000) = false := decide_eq_false (by omega)
   have d3 : decide ((30000 : Int) < (s.length : Int)) = false := decide_eq_false (by omega)
   go_upto_region 3 with fail
   clear d1 d2 d3
   go_wp2_with fail
   refine (text_of H0.out (GG.out _ NN.out)).mono ?_
   rintro e w11 ⟨rfl, hb⟩
   replace NN := Lib.hid (Bgo NN.out hb)
   replace H0 := Lib.hid (HR.next H0.out hb)
   clear hb
   obtain ⟨te, hte⟩ : ∃ te, txE l = te := ⟨_, rfl⟩
   rw [hte] at RX TB ⊢
   obtain ⟨tx, htx⟩ : ∃ tx, txO l = tx := ⟨_, rfl⟩
   rw [htx] at RX TB TLn ⊢
   clear hte htx
   go_wp2_with fail
   refine (RX.out _ NN.out).mono ?_
   rintro e w12 ⟨rfl, hb⟩
   replace NN := Lib.hid (Bgo NN.out hb)
   replace H0 := Lib.hid (HR.next H0.out hb)
   clear hb
   go_wp2_with fail
   refine (tparse_calls s (by omega) _ (GG.out _ NN.out)).mono ?_
   rintro e w13 ⟨v1, rfl, hb, ho1⟩
   have X1 := Lib.hid ho1.hr
   clear ho1
   replace NN := Lib.hid (Bgo NN.out hb)
   replace H0 := Lib.hid (HR.next H0.out hb)
   clear hb
   obtain ⟨pe, hpe⟩ : ∃ pe, paE s = pe := ⟨_, rfl⟩
   rw [hpe]
   have HPE := Lib.hid hpe
   clear hpe
   go_wp2_with fail
   refine (rparse_of s _ H30).mono ?_
   rintro e w14 ⟨v2, rfl, hb, ho2⟩
   have X2 := Lib.hid ho2.hr
   clear ho2
   replace NN := Lib.hid (Bgo NN.out hb)
   replace H0 := Lib.hid (HR.next H0.out hb)
   replace X1 := Lib.hid (HR.next X1.out hb)
   clear hb
   rw [HPE.out]
   have qs : (tx == tx) = true := beq_self_eq_true _
   go_wp2_with fail
   refine (same_of X1.out X2.out (Nat.le_trans PLn.out (by decide))).mono ?_
   rintro e w15 ⟨rfl, hb⟩
   replace NN := Lib.hid (Bgo NN.out hb)
   replace H0 := Lib.hid (HR.next H0.out hb)
   replace X1 := Lib.hid (HR.next X1.out hb)
   replace X2 := Lib.hid (HR.next X2.out hb)
   clear hb
   clear X2
   by_cases h1 : te = 0
   ·subst h1
    obtain ⟨b1, b2⟩ := TB.out rfl
    clear TB
    go_wp2_with fail
    refine (tparse_calls tx (Nat.le_trans TLn.out (by decide)) _ (GG.out _ NN.out)).mono ?_
    rintro e w16 ⟨v3, rfl, hb, ho3⟩
    rw [b1]
    rw [b2] at ho3
    have X3 := Lib.hid ho3.hr
    clear ho3 b1 b2
    replace NN := Lib.hid (Bgo NN.out hb)
    replace H0 := Lib.hid (HR.next H0.out hb)
    replace X1 := Lib.hid (HR.next X1.out hb)
    clear hb
    go_wp2_with fail
    refine (same_of X3.out H0.out (Nat.le_trans L3 (by decide))).mono ?_
    rintro e w17 ⟨rfl, hb⟩
    replace NN := Lib.hid (Bgo NN.out hb)
    replace H0 := Lib.hid (HR.next H0.out hb)
    replace X1 := Lib.hid (HR.next X1.out hb)
    replace X3 := Lib.hid (HR.next X3.out hb)
    clear hb
    by_cases h2 : pe = 0
    ·subst h2
     obtain ⟨c1, c2⟩ := PB.out HPE.out
     clear PB
     go_wp2_with fail
     refine (text_of X1.out (GG.out _ NN.out)).mono ?_
     rintro e w18 ⟨rfl, hb⟩
     replace NN := Lib.hid (Bgo NN.out hb)
     replace H0 := Lib.hid (HR.next H0.out hb)
     replace X1 := Lib.hid (HR.next X1.out hb)
     replace X3 := Lib.hid (HR.next X3.out hb)
     clear hb
     rw [c1, c2]
     have qs2 : (s == s) = true := beq_self_eq_true _
     go_wp2_with fail
     go_ret
     exact ⟨rfl, NN.out⟩
    ·have q2 : (pe == 0) = false := by rw [beq_eq_false_iff_ne]; exact h2
     clear h2 PB HPE
     go_wp2_with fail
     go_ret
     exact ⟨rfl, NN.out⟩
   ·have q1 : (te == 0) = false := by rw [beq_eq_false_iff_ne]; exact h1
    clear h1 TB
    by_cases h2 : pe = 0
    ·subst h2
     obtain ⟨c1, c2⟩ := PB.out HPE.out
     clear PB
     go_wp2_with fail
     refine (text_of X1.out (GG.out _ NN.out)).mono ?_
     rintro e w19 ⟨rfl, hb⟩
     replace NN := Lib.hid (Bgo NN.out hb)
     replace H0 := Lib.hid (HR.next H0.out hb)
     replace X1 := Lib.hid (HR.next X1.out hb)
     clear hb
     rw [c1, c2]
     have qs2 : (s == s) = true := beq_self_eq_true _
     go_wp2_with fail
     go_ret
     exact ⟨rfl, NN.out⟩
    ·have q2 : (pe == 0) = false := by rw [beq_eq_false_iff_ne]; exact h2
     clear h2 PB HPE
     go_wp2_with fail
     go_ret
     exact ⟨rfl, NN.out⟩
  ·have d1 : decide ((3000 : Int) < (s.length : Int)) = true := decide_eq_true (by omega)
   have d2 : decide ((s.length : Int) ≤ 20000) = false := decide_eq_false (by omega)
   have d3 : decide ((30000 : Int) < (s.length : Int)) = true := decide_eq_true (by omega)
   go_wp2_with fail
   go_ret
   exact ⟨rfl, NN.out⟩
end Go.Proofs.YtbbnkclajpaghaaGreatDoor
namespace Go.Proofs.YtbbnkclajpaghaaGreatDoor
open Go.ChangeShapes Go.WideShapes Go.ChangeAt Go.RowKit Go.Deep Go.Joins
set_option linter.unusedVariables false
set_option maxRecDepth 100000
set_option linter.unusedSimpArgs false
instance : Inhabited Vr := ⟨⟨0, 0, 0, 0, 0, 0, 0, 0⟩⟩
theorem plain_addr {w : World} {a : Addr} {v : Value} (h : w.cell? a = some v) : a = ⟨a.block, a.off, none⟩ := by
 rcases a with ⟨b, o, s⟩
 cases s with
 | none => rfl
 | some s =>
  unfold World.cell? at h
  split at h
  ·simp at h
  ·cases h
theorem add_plain (b o j : Nat) : (⟨b, o, none⟩ : Addr).add j = ⟨b, o + j, none⟩ := by
 simp [Addr.add]
theorem list3 {α : Type} {cs : List α} (h : cs.length = 3) : ∃ c0 c1 c2, cs = [c0, c1, c2] := by
 match cs, h with
 | [c0, c1, c2], _ => exact ⟨c0, c1, c2, rfl⟩
theorem list4 {α : Type} {cs : List α} (h : cs.length = 4) : ∃ c0 c1 c2 c3, cs = [c0, c1, c2, c3] := by
 match cs, h with
 | [c0, c1, c2, c3], _ => exact ⟨c0, c1, c2, c3, rfl⟩
theorem list6 {α : Type} {cs : List α} (h : cs.length = 6) : ∃ c0 c1 c2 c3 c4 c5, cs = [c0, c1, c2, c3, c4, c5] := by
 match cs, h with
 | [c0, c1, c2, c3, c4, c5], _ => exact ⟨c0, c1, c2, c3, c4, c5, rfl⟩
theorem list8 {α : Type} {cs : List α} (h : cs.length = 8) : ∃ c0 c1 c2 c3 c4 c5 c6 c7, cs = [c0, c1, c2, c3, c4, c5, c6, c7] := by
 match cs, h with
 | [c0, c1, c2, c3, c4, c5, c6, c7], _ => exact ⟨c0, c1, c2, c3, c4, c5, c6, c7, rfl⟩
theorem cof_i : Tryz.prog.cellsOf 3 = 1 := by kernel_rfl
theorem cof_l : Tryz.prog.cellsOf 2 = 1 := by kernel_rfl
theorem cof_c : Tryz.prog.cellsOf 40 = 3 := by kernel_rfl
theorem cof_v : Tryz.prog.cellsOf 42 = 6 := by kernel_rfl
theorem cof_r : Tryz.prog.cellsOf 44 = 8 := by kernel_rfl
section
variable {H : Type} {enc : TypeId × Value → H} {w : World} {base : Nat} {spare : Nat → Bool} {held : Bool}
theorem int_oneT {n : Nat} {c : Value} {x : Option (DataW H × List MemPlace)} {y : DataW H × List MemPlace} (hx : x = some y) (h : DataW.trod enc Tryz.prog w base spare held n 3 [c] = x) : ∃ a : Int, c = .int .i64 a := by
 subst hx
 obtain ⟨a, e, _⟩ := DataW.trod_int Tryz.underlying3 h
 simp only [List.cons.injEq, and_true] at e
 exact ⟨a, e⟩
theorem long_one {n : Nat} {c : Value} {x : Option (DataW H × List MemPlace)} {y : DataW H × List MemPlace} (hx : x = some y) (h : DataW.trod enc Tryz.prog w base spare held n 2 [c] = x) : ∃ a : Int, c = .int .i64 a := by
 subst hx
 obtain ⟨a, e, _⟩ := DataW.trod_int Tryz.underlying2 h
 simp only [List.cons.injEq, and_true] at e
 exact ⟨a, e⟩
theorem cx_cells {fuel : Nat} {cs : List Value} {x : DataW H × List MemPlace} (h : DataW.trod enc Tryz.prog w base spare held fuel 40 cs = some x) : ∃ a b c : Int, cs = [.int .i64 a, .int .i64 b, .int .i64 c] := by
 obtain ⟨xs, n, _, _, hl, hx, hf⟩ := DataW.trod_struct Tryz.underlying40 h
 rw [cof_c] at hl
 obtain ⟨u0, u1, u2, rfl⟩ := list3 hl
 obtain ⟨x0, x1, x2, rfl⟩ := list3 hx
 have h0 := hf 0 _ rfl
 have h1 := hf 1 _ rfl
 have h2 := hf 2 _ rfl
 change DataW.trod enc Tryz.prog w base spare held n 2 (([u0, u1, u2].drop 0).take (Tryz.prog.cellsOf 2)) = _ at h0
 rw [cof_l] at h0
 change DataW.trod enc Tryz.prog w base spare held n 2 (([u0, u1, u2].drop 1).take (Tryz.prog.cellsOf 2)) = _ at h1
 rw [cof_l] at h1
 change DataW.trod enc Tryz.prog w base spare held n 2 (([u0, u1, u2].drop 2).take (Tryz.prog.cellsOf 2)) = _ at h2
 rw [cof_l] at h2
 obtain ⟨a, rfl⟩ := long_one rfl h0
 obtain ⟨b, rfl⟩ := long_one rfl h1
 obtain ⟨c, rfl⟩ := long_one rfl h2
 exact ⟨a, b, c, rfl⟩
theorem vis_cells {fuel : Nat} {cs : List Value} {x : DataW H × List MemPlace} (h : DataW.trod enc Tryz.prog w base spare held fuel 42 cs = some x) : ∃ i j a b c n : Int, cs = [.int .i64 i, .int .i64 j, .int .i64 a, .int .i64 b, .int .i64 c, .int .i64 n] := by
 obtain ⟨xs, n, _, _, hl, hx, hf⟩ := DataW.trod_struct Tryz.underlying42 h
 rw [cof_v] at hl
 obtain ⟨u0, u1, u2, u3, u4, u5, rfl⟩ := list6 hl
 obtain ⟨x0, x1, x2, x3, rfl⟩ := list4 hx
 have h0 := hf 0 _ rfl
 have h1 := hf 1 _ rfl
 have h2 := hf 2 _ rfl
 have h3 := hf 3 _ rfl
 change DataW.trod enc Tryz.prog w base spare held n 3 (([u0, u1, u2, u3, u4, u5].drop 0).take (Tryz.prog.cellsOf 3)) = _ at h0
 rw [cof_i] at h0
 change DataW.trod enc Tryz.prog w base spare held n 3 (([u0, u1, u2, u3, u4, u5].drop 1).take (Tryz.prog.cellsOf 3)) = _ at h1
 rw [cof_i] at h1
 change DataW.trod enc Tryz.prog w base spare held n 40 (([u0, u1, u2, u3, u4, u5].drop 2).take (Tryz.prog.cellsOf 40)) = _ at h2
 rw [cof_c] at h2
 change DataW.trod enc Tryz.prog w base spare held n 3 (([u0, u1, u2, u3, u4, u5].drop 5).take (Tryz.prog.cellsOf 3)) = _ at h3
 rw [cof_i] at h3
 obtain ⟨i, rfl⟩ := int_oneT rfl h0
 obtain ⟨j, rfl⟩ := int_oneT rfl h1
 obtain ⟨a, b, c, e⟩ := cx_cells (x := x2) h2
 obtain ⟨m, rfl⟩ := int_oneT rfl h3
 simp at e
 obtain ⟨rfl, rfl, rfl⟩ := e
 exact ⟨i, j, a, b, c, m, rfl⟩
theorem row_cells {fuel : Nat} {cs : List Value} {x : DataW H × List MemPlace} (h : DataW.trod enc Tryz.prog w base spare held fuel 44 cs = some x) : ∃ r : Vr, cs = vr8 r := by
 obtain ⟨xs, n, _, _, hl, hx, hf⟩ := DataW.trod_struct Tryz.underlying44 h
 rw [cof_r] at hl
 obtain ⟨u0, u1, u2, u3, u4, u5, u6, u7, rfl⟩ := list8 hl
 obtain ⟨x0, x1, x2, rfl⟩ := list3 hx
 have h0 := hf 0 _ rfl
 have h1 := hf 1 _ rfl
 have h2 := hf 2 _ rfl
 change DataW.trod enc Tryz.prog w base spare held n 3 (([u0, u1, u2, u3, u4, u5, u6, u7].drop 0).take (Tryz.prog.cellsOf 3)) = _ at h0
 rw [cof_i] at h0
 change DataW.trod enc Tryz.prog w base spare held n 3 (([u0, u1, u2, u3, u4, u5, u6, u7].drop 1).take (Tryz.prog.cellsOf 3)) = _ at h1
 rw [cof_i] at h1
 change DataW.trod enc Tryz.prog w base spare held n 42 (([u0, u1, u2, u3, u4, u5, u6, u7].drop 2).take (Tryz.prog.cellsOf 42)) = _ at h2
 rw [cof_v] at h2
 obtain ⟨t, rfl⟩ := int_oneT rfl h0
 obtain ⟨c, rfl⟩ := int_oneT rfl h1
 obtain ⟨i, j, a, b, d, m, e⟩ := vis_cells (x := x2) h2
 simp at e
 obtain ⟨rfl, rfl, rfl, rfl, rfl, rfl⟩ := e
 exact ⟨⟨t, c, i, j, a, b, d, m⟩, rfl⟩
theorem open_vrows {fuel : Nat} {cs : List Value} {x : DataW H × List MemPlace} (h : DataW.trod enc Tryz.prog w base spare held fuel 22 cs = some x) :
  ∃ (a : Option Addr) (l : List Vr) (cap : Nat), cs = [.slice a l.length cap] ∧ l.length ≤ cap ∧ cap ≤ 9223372036854775807 ∧ RT w a l := by
 rcases open_slice und_vis h with ⟨rfl, _⟩ | ⟨a, len, cap, m, n, D, Pl, rfl, hb, hl, hm, hmm, hx, hi⟩
 ·exact ⟨none, [], 0, rfl, Nat.le_refl _, by omega, RT.empty _ _⟩
 ·have hle : len ≤ m := by rw [hmm]; split <;> omega
  have key : ∀ i, i < len → ∃ r : Vr, ∀ j, j < 8 → w.cell? (a.add (i * 8 + j)) = (vr8 r)[j]? := by
   intro i hil
   obtain ⟨cs', hc, ht⟩ := hi i (by omega)
   rw [cof_r] at hc
   obtain ⟨r, rfl⟩ := row_cells ht
   obtain ⟨_, _, hat⟩ := World.cells?_some hc
   exact ⟨r, fun j hj => by rw [← Go.Deep.add_add]; exact hat j hj⟩
  obtain ⟨f, hf⟩ := choose_lt key
  refine ⟨some a, (List.range len).map f, cap, by simp, by simpa using hl, by simpa [maxLen] using hm, fm_len _ _ vr8_len _, fun hn => ?_⟩
  have hn' : 0 < len := by simpa using hn
  have h0 := hf 0 hn' 0 (by omega)
  have ha : a = ⟨a.block, a.off, none⟩ := plain_addr (by simpa [Addr.add, vr8] using h0)
  have hlt := World.block_lt_of_cell? w (a.add (0 * 8 + 0)) h0
  refine ⟨a.block, a.off, by rw [← ha], hlt, fun j u hu => ?_⟩
  have hj : j < len * 8 := by
   have := (List.getElem?_eq_some_iff.1 hu).1
   rw [show (vrc ((List.range len).map f)).length = ((List.range len).map f).length * 8 from fm_len _ _ vr8_len _] at this
   simpa using this
  have e : j / 8 * 8 + j % 8 = j := by omega
  have hi8 : j / 8 < ((List.range len).map f).length := by simp; omega
  have g := fm_get vr8 8 vr8_len ((List.range len).map f) (j / 8) (j % 8) hi8 (by omega)
  rw [e] at g
  have h1 := hf (j / 8) (by omega) (j % 8) (by omega)
  rw [e, ha, add_plain] at h1
  have h2 : w.cell? ⟨a.block, a.off + j, none⟩ = (vr8 (f (j / 8)))[j % 8]? := h1
  rw [h2]
  unfold vrc at hu
  rw [g] at hu
  simpa using hu
set_option maxRecDepth 100000 in
theorem open_rowsv {r : Reach} {b0 : Nat} {v : Value} {d : DataW H} {p : List MemPlace} (hv : Value.okWide Tryz.prog w r b0 22 v) (h : DataW.Trod enc Tryz.prog w base spare held 22 v d p) :
  ∃ (A : Option Addr) (l : List Vr) (cap : Nat), v = .slice A l.length cap ∧ l.length ≤ cap ∧ cap ≤ 9223372036854775807 ∧ RT w A l := by
 obtain ⟨fuel, hf⟩ := h
 obtain ⟨sa, sl, sc, rfl⟩ := okWide_slice und_vis hv
 obtain ⟨A, l, cap, e, h1, h2, h3⟩ := open_vrows (cs := [.slice sa sl sc]) hf
 simp only [List.cons.injEq, and_true, Value.slice.injEq] at e
 obtain ⟨rfl, rfl, rfl⟩ := e
 exact ⟨_, l, _, rfl, h1, h2, h3⟩
end
end Go.Proofs.YtbbnkclajpaghaaGreatDoor
namespace Go.Proofs.YtbbnkclajpaghaaGreatDoor
open Go.ChangeShapes Go.WideShapes Go.ChangeAt Go.RowKit
set_option linter.unusedVariables false
theorem star : "*" ++ "errors.errorString" = "*errors.errorString" := by decide
theorem rowE (u : TypeId) (h : Tryz.prog.typeName? 3 u = some "*errors.errorString") : u = 198 :=
 typeName_ptr_named (nm := "errors.errorString") (by rw [star]; kernel_rfl) (by kernel_rfl) (by decide) u (by rw [star]; exact h)
theorem gl_of {W : World} (hL : laidMet Tryz.prog [("math/bits.deBruijn32tab", Rows.laid_math_bits_deBruijn32tab), ("math/bits.deBruijn64tab", Rows.laid_math_bits_deBruijn64tab), ("internal/strconv.uint64pow10", Rows.laid_internal_strconv_uint64pow10), ("unicode/utf8.acceptRanges", Rows.laid_unicode_utf8_acceptRanges), ("strconv.ErrRange", Rows.laid_strconv_ErrRange), ("strconv.ErrSyntax", Rows.laid_strconv_ErrSyntax), ("unicode/utf8.first", Rows.laid_unicode_utf8_first)] W) (hsh : W.ShapedOpen Tryz.prog) : GL W := by
 have h1 := hL.tail.tail
 have h2 := h1.tail.tail
 have h3 := h2.tail
 refine ⟨Lib.tabIs_of_head (g := 3) (by kernel_rfl) (t := 191) (by kernel_rfl) Tryz.underlying191 Tryz.underlying147 (by kernel_rfl) (by kernel_rfl) h1, ?_, ?_, Tryz.laysM145.s1_3 W hsh⟩
 ·obtain ⟨a, s, hv, _⟩ := laid_sentinel h3 (g := 1) (by kernel_rfl) (ti := 70) (by kernel_rfl) Tryz.underlying70 rowE Tryz.underlying198 Tryz.underlying200 rfl rfl Tryz.underlying9 (by kernel_rfl) (by kernel_rfl)
  exact ⟨_, _, hv⟩
 ·obtain ⟨a, s, hv, _⟩ := laid_sentinel h2 (g := 2) (by kernel_rfl) (ti := 70) (by kernel_rfl) Tryz.underlying70 rowE Tryz.underlying198 Tryz.underlying200 rfl rfl Tryz.underlying9 (by kernel_rfl) (by kernel_rfl)
  exact ⟨_, _, hv⟩
set_option maxRecDepth 100000 in
theorem rows_lt {W : World} {base : Nat} {A : Option Addr} {n c : Nat} (h : Value.okWide Tryz.prog W .any base 22 (.slice A n c)) : ∀ b off, A = some ⟨b, off, none⟩ → b < W.heap.size := by
 rintro b off rfl
 simp only [Value.okWide, und_vis, Cell.okWide, Cell.ok, World.has] at h
 obtain ⟨-, -, -, -, row, cells, hsh, -⟩ := h
 rcases Nat.lt_or_ge b W.heap.size with h' | h'
 ·exact h'
 ·exfalso
  simp [World.shape?, Array.getElem?_eq_none h'] at hsh
end Go.Proofs.YtbbnkclajpaghaaGreatDoor
