/- Several texts in one. -/
import Derived.Deep.RegionLaw
import Derived.Laws.IdiomStrings
import Derived.OwnWalk
import Derived.Test.YtbbnkclajpaghaaGreatDoorMF01
import Derived.Test.YtbbnkclajpaghaaGreatDoorMF03
import Derived.Test.YtbbnkclajpaghaaGreatDoorMF04
import Derived.Test.YtbbnkclajpaghaaGreatDoorMF05
import Derived.Test.YtbbnkclajpaghaaGreatDoorMF06
import Derived.Test.YtbbnkclajpaghaaGreatDoorMF08
import Derived.Test.YtbbnkclajpaghaaGreatDoorMF09
set_option maxHeartbeats 8000000
set_option maxRecDepth 100000
set_option linter.unusedVariables false
set_option linter.unusedSimpArgs false
namespace Go.Proofs.YtbbnkclajpaghaaGreatDoor
section
open Go.ChangeShapes Go.WideShapes Go.ChangeAt Go.RowKit
attribute [local go_sem ↓] Go.wp_at_zero Go.wp_at_succ
def paE (s : List UInt8) : Int := if 20000 < s.length then 4 else match parP s with
 | some _ => 0
 | none => 12
def paL (s : List UInt8) : List Vr := if 20000 < s.length then [] else match parP s with
 | some t => t
 | none => []
theorem pa_none {s : List UInt8} (h0 : ¬ 20000 < s.length) (h : parP s = none) : paE s = 12 ∧ paL s = [] := by unfold paE paL; rw [if_neg h0, if_neg h0, h]; exact ⟨rfl, rfl⟩
theorem pa_some {s : List UInt8} {t : List Vr} (h0 : ¬ 20000 < s.length) (h : parP s = some t) : paE s = 0 ∧ paL s = t := by unfold paE paL; rw [if_neg h0, if_neg h0, h]; exact ⟨rfl, rfl⟩
theorem pa_long {s : List UInt8} (h0 : 20000 < s.length) : paE s = 4 ∧ paL s = [] := by unfold paE paL; rw [if_pos h0, if_pos h0]; exact ⟨rfl, rfl⟩
theorem allO_len {f : List UInt8 → Option Vr} : ∀ {ls : List (List UInt8)} {t : List Vr}, allO f ls = some t → t.length = ls.length
 | [], t, h => by
  unfold allO at h
  injection h with h
  subst h; rfl
 | l :: ls, t, h => by
  unfold allO at h
  split at h
  ·rename_i r t' h1 h2
   injection h with h
   subst h
   rw [List.length_cons, List.length_cons, allO_len h2]
  ·cases h
theorem allO_none {f : List UInt8 → Option Vr} {x : List UInt8} (hf : f x = none) : ∀ {ls : List (List UInt8)}, x ∈ ls → allO f ls = none
 | [], h => by cases h
 | l :: ls, h => by
  unfold allO
  rcases List.mem_cons.1 h with rfl | h
  ·rw [hf]
  ·rw [allO_none hf h]
   split
   ·rename_i h1 h2; cases h2
   ·rfl
theorem allO_snoc {f : List UInt8 → Option Vr} {x : List UInt8} {r : Vr} (hr : f x = some r) : ∀ {a : List (List UInt8)} {t : List Vr}, allO f a = some t → allO f (a ++ [x]) = some (t ++ [r])
 | [], t, h => by
  unfold allO at h
  injection h with h
  subst h
  show allO f [x] = some [r]
  unfold allO
  rw [hr]; rfl
 | l :: ls, t, h => by
  unfold allO at h
  split at h
  ·rename_i r' t' h1 h2
   injection h with h
   subst h
   rw [List.cons_append]
   unfold allO
   rw [h1, allO_snoc hr h2]; rfl
  ·cases h
end
section
open Go.ChangeShapes Go.WideShapes Go.ChangeAt Go.RowKit
attribute [local go_sem] Oper.semAt_some
theorem parP_eq (s : List UInt8) : parP s = match allO prP (linesF s) with
 | some t => if chkE t = 0 ∧ txT t = s then some t else none
 | none => none := rfl
theorem parP_no {s x : List UInt8} (hx : x ∈ linesF s) (h : prP x = none) : parP s = none := by rw [parP_eq, allO_none h hx]
theorem parP_long {s : List UInt8} (h : 200 < (linesF s).length) : parP s = none := by
 rw [parP_eq]
 split
 ·rename_i t ht
  rw [if_neg]
  intro hh
  have := (chk_rows hh.1).1
  have := allO_len ht
  omega
 ·rfl
theorem parP_fin {s : List UInt8} {t : List Vr} (h : allO prP (linesF s) = some t) : parP s = if chkE t = 0 ∧ txT t = s then some t else none := by rw [parP_eq, h]
theorem txE_ok {t : List Vr} {s : List UInt8} (hs : ¬ 20000 < s.length) : (txE t = 0 ∧ txO t = s) ↔ (chkE t = 0 ∧ txT t = s) := by
 unfold txO txE
 by_cases h1 : chkE t = 0
 ·by_cases h2 : 20000 < (txT t).length
  ·simp only [h1, h2, ne_eq, not_true_eq_false, if_true, if_false]
   constructor
   ·rintro ⟨h, -⟩; cases h
   ·rintro ⟨-, h⟩; rw [h] at h2; exact absurd h2 hs
  ·simp [h1, h2]
 ·simp [h1]
theorem wpListIn_app1 {F : Fence} {n : Nat} {w : World} {ops : Array Oper} {rest : List Oper} {o : Oper} {a : Act} {Q : Exit → Act → World → Prop}
  (hg : o.guard = none) (s x : Operand) (hop : o.op = Op.call { callee := Callee.builtin Builtin.append, args := #[s, x], argTypes := #[22, 22] })
  (B : Nat) (v : Value) (l : List Vr) (hs : a.eval s = v) (A : Option Addr) (r : Vr) (hx : a.eval x = .slice A 1 1)
  (hown : OR B w v l) (hr : RT w A [r]) (hb : l.length ≤ 900) (hB : B ≤ w.heap.size)
  (hK : ∀ A1 c1 w', OR B w' (.slice A1 (l.length + 1) c1) (l ++ [r]) → Below B w w' → KeepsOthers w w' → wpListIn F n Tryz.prog ops Q rest (a.put o.dst (.slice A1 (l.length + 1) c1)) w') : wpListIn F n Tryz.prog ops Q (o :: rest) a w := by
 refine wpListIn_app hg s x hop B v l hs A 1 1 [r] hx hown rfl hr (by omega) hB ?_
 intro v' w' h1 h2 h3
 obtain ⟨A1, c1, hv, -⟩ := OR.form h1
 rw [List.length_append, List.length_singleton] at hv
 subst hv
 exact hK A1 c1 w' h1 h2 h3
theorem tparse_calls (s : List UInt8) (hs : s.length ≤ 100000) (w : World) (g : GL w) : Calls Tryz.prog 11 #[Str s] w fun e w' =>
  ∃ v, e = .returned (.tuple #[v, .int .i64 (paE s)]) ∧ Below w.heap.size w w' ∧ OR w.heap.size w' v (paL s) := by
 have GG := zh (fun W (h : Below w.heap.size w W) => g.next h)
 have NN := zh (Below.refl w.heap.size w)
 have PLg := zh (fun h => pa_long (s := s) h)
 have PNg := zh (fun h1 h2 => pa_none (s := s) h1 h2)
 have PSg := zh (fun t h1 h2 => pa_some (s := s) (t := t) h1 h2)
 obtain ⟨pe, hpe⟩ : ∃ pe, paE s = pe := ⟨_, rfl⟩
 obtain ⟨pl, hpl⟩ : ∃ pl, paL s = pl := ⟨_, rfl⟩
 rw [hpe, hpl] at PLg PNg ⊢
 rw [hpe, hpl] at PSg
 clear hpe hpl g
 have hz : (⟨s.toArray⟩ : ByteArray).size = s.length := by show s.toArray.size = _; simp
 refine (callsIn_wide (n := 0)).1 ?_
 refine callsIn_of_wp_marks Tryz.func11 rfl trivial ?_ rfl
 simp only [Tryz.ntmps11, List.size_toArray, List.length_cons, List.length_nil, Nat.reduceAdd, Nat.reduceSub, Array.replicate_succ, Array.replicate_zero, List.push_toArray, List.append_toArray, List.nil_append, List.cons_append]
 by_cases h0 : 20000 < s.length
 ·have d1 : decide ((20000 : Int) < (s.length : Int)) = true := decide_eq_true (by omega)
  have HE := zh (PLg.out h0)
  clear PLg PNg PSg
  gi_wp2_with fail
  have c_V2_0 := blk_cell (blk_alloc (blk_new w (.cells #[.slice none 0 0] 22)) (.cells #[.int .i64 4] 24)) 0 _ rfl
  have c_V3_0 : ((w.alloc (.cells #[.slice none 0 0] 22)).alloc (.cells #[.int .i64 4] 24)).cell? ⟨w.heap.size + 1, 0, none⟩ = some (.int .i64 4) := blk_cell (blk_at _ (by simp)) 0 _ rfl
  replace NN : Hid (Below w.heap.size w ((w.alloc (.cells #[.slice none 0 0] 22)).alloc (.cells #[.int .i64 4] 24))) := zh (Bal (Bal NN.out _) _)
  exact ⟨.tuple #[.slice none 0 0, .int .i64 4], by simp [results, Tryz.results11, go_sem, c_V2_0, c_V3_0], ⟨_, by rw [HE.out.1], NN.out, by rw [HE.out.2]; exact OR.nil _ _⟩⟩
 have d1 : decide ((20000 : Int) < (s.length : Int)) = false := decide_eq_false (by omega)
 have PN := zh (PNg.out h0)
 have PS := zh (fun t => PSg.out t h0)
 clear PLg PNg PSg
 gi_wp2_with fail
 have V2 : Hid (((w.alloc (.cells #[.slice none 0 0] 22)).alloc (.cells #[.int .i64 0] 24)).heap[w.heap.size]? = some (.cells #[.slice none 0 0] 22)) := zh (blk_alloc (blk_new w _) _)
 have V3 : Hid (((w.alloc (.cells #[.slice none 0 0] 22)).alloc (.cells #[.int .i64 0] 24)).heap[w.heap.size + 1]? = some (.cells #[.int .i64 0] 24)) := zh (blk_at _ (by simp))
 replace NN : Hid (Below w.heap.size w ((w.alloc (.cells #[.slice none 0 0] 22)).alloc (.cells #[.int .i64 0] 24))) := zh (Bal (Bal NN.out _) _)
 have HS9 : ((w.alloc (.cells #[.slice none 0 0] 22)).alloc (.cells #[.int .i64 0] 24)).heap.size = w.heap.size + 1 + 1 := by simp
 generalize ((w.alloc (.cells #[.slice none 0 0] 22)).alloc (.cells #[.int .i64 0] 24)) = W3 at *
 rw [← HS9]
 clear HS9
 refine ⟨trivial, rfl, (callsIn_wide.2 (lines_calls s _)).mono ?_⟩
 rintro e w9 ⟨rfl, rfl⟩
 gi_wp2_with fail
 have LG : Hid (w.heap.size + 2 ≤ W3.heap.size) := zh (by have := blk_lt V3.out; omega)
 have HB1 := zh (fun x hx h => parP_no (s := s) (x := x) hx h)
 have HB2 := zh (fun h => parP_long (s := s) h)
 have HB3 := zh (fun t h => parP_fin (s := s) (t := t) h)
 have HW := zh (fun x hx => Nat.le_trans (linesF_part s.length s (Nat.le_refl _) x hx) hs)
 replace NN : Hid (Below w.heap.size w ((W3.alloc (.cells #[.slice none 0 0] 22)).alloc (.cells #[Str s] 9))) := zh (Bal (Bal NN.out _) _)
 have SZ : Hid (((W3.alloc (.cells #[.slice none 0 0] 22)).alloc (.cells #[Str s] 9)).heap.size = W3.heap.size + 2) := zh (by simp)
 replace V2 : Hid (((W3.alloc (.cells #[.slice none 0 0] 22)).alloc (.cells #[Str s] 9)).heap[w.heap.size]? = some (.cells #[.slice none 0 0] 22)) := zh (blk_alloc (blk_alloc V2.out _) _)
 replace V3 : Hid (((W3.alloc (.cells #[.slice none 0 0] 22)).alloc (.cells #[Str s] 9)).heap[w.heap.size + 1]? = some (.cells #[.int .i64 0] 24)) := zh (blk_alloc (blk_alloc V3.out _) _)
 have V9 : Hid (((W3.alloc (.cells #[.slice none 0 0] 22)).alloc (.cells #[Str s] 9)).heap[W3.heap.size]? = some (.cells #[.slice none 0 0] 22)) := zh (blk_alloc (blk_new W3 _) _)
 have VT : Hid (((W3.alloc (.cells #[.slice none 0 0] 22)).alloc (.cells #[Str s] 9)).heap[W3.heap.size + 1]? = some (.cells #[Str s] 9)) := zh (blk_at _ (by simp))
 generalize ((W3.alloc (.cells #[.slice none 0 0] 22)).alloc (.cells #[Str s] 9)) = W0 at *
 generalize W3.heap.size = g2 at *
 refine range_n 60 #[.pointer (some ⟨g2 + 1, 0, none⟩)] rfl (enters_of Tryz.func60 (by kernel_rfl) rfl) (encL s) w.heap.size (linesF s).length
  (lines_seq hs (fun W h => GG.out W (NN.out.trans h)) (by have := SZ.out; have := LG.out; omega) VT.out) (by have := SZ.out; have := LG.out; omega) (fun _ => rfl)
  (fun k W => (W.heap[w.heap.size]? = some (.cells #[.slice none 0 0] 22)) ∧ (W.heap[w.heap.size + 1]? = some (.cells #[.int .i64 0] 24)) ∧ (Below w.heap.size w W) ∧ (g2 + 2 ≤ W.heap.size) ∧ (∃ (t : List Vr) (A9 : Option Addr) (c9 : Nat), allO prP ((linesF s).take k) = some t ∧ t.length ≤ 200 ∧ W.heap[g2]? = some (.cells #[.slice A9 t.length c9] 22) ∧ OR W0.heap.size W (.slice A9 t.length c9) t))
  (fun cd k W => ((cd = .ret) ∧ (parP s = none) ∧ (W.heap[w.heap.size]? = some (.cells #[.slice none 0 0] 22)) ∧ (W.heap[w.heap.size + 1]? = some (.cells #[.int .i64 12] 24)) ∧ (Below w.heap.size w W)))
  (fun k a' W => (a' = { tmps := #[Str s, undef, .pointer (some ⟨w.heap.size, 0, none⟩), .pointer (some ⟨w.heap.size + 1, 0, none⟩), .pointer (some ⟨g2, 0, none⟩), Str ((linesF s).getD k []), undef, undef, undef, undef, Str s, .int .i64 (s.length : Int), .bool false, Str s, .func (.func 60) #[] #[.pointer (some ⟨g2 + 1, 0, none⟩)], Str ((linesF s).getD k []), undef, undef, undef, undef, undef, undef, undef, undef, undef, undef, undef, undef, undef, undef, undef, undef, undef, undef, undef, undef, undef, undef, undef, undef, undef, undef, undef, undef, undef], defers := [] }) ∧ (W.heap[w.heap.size]? = some (.cells #[.slice none 0 0] 22)) ∧ (W.heap[w.heap.size + 1]? = some (.cells #[.int .i64 0] 24)) ∧ (Below w.heap.size w W) ∧ (g2 + 2 ≤ W.heap.size) ∧ (∃ (t : List Vr) (A9 : Option Addr) (c9 : Nat), allO prP ((linesF s).take k) = some t ∧ t.length ≤ 200 ∧ W.heap[g2]? = some (.cells #[.slice A9 t.length c9] 22) ∧ OR W0.heap.size W (.slice A9 t.length c9) t))
  ((own_blk _ _ _).and ((own_blk _ _ _).and ((ownFrom_below (Nat.le_refl _) (by have := SZ.out; have := LG.out; omega)).and ((own_size _).and (own_ex fun _ => own_ex fun _ => own_ex fun _ => (own_pure _).and ((own_pure _).and ((own_blk _ _ _).and (own_row _ _))))))))
  (fun _ => ((own_pure _).and ((own_pure _).and ((own_blk _ _ _).and ((own_blk _ _ _).and (ownFrom_below (Nat.le_refl _) (by have := SZ.out; have := LG.out; omega)))))))
  (fun _ => ((own_pure _).and ((own_blk _ _ _).and ((own_blk _ _ _).and ((ownFrom_below (Nat.le_refl _) (by have := SZ.out; have := LG.out; omega)).and ((own_size _).and (own_ex fun _ => own_ex fun _ => own_ex fun _ => (own_pure _).and ((own_pure _).and ((own_blk _ _ _).and (own_row _ _))))))))))
  ⟨V2.out, V3.out, NN.out, (by have := SZ.out; have := LG.out; omega), ⟨[], none, 0, rfl, Nat.zero_le _, V9.out, OR.nil _ _⟩⟩ ?assign ?body ?done ?stop
 case assign =>
  rintro lp k W K ⟨v2, v3, nn, sz, t, A9, c9, h1, h2, v9, o9⟩ hlt hK
  gi_wp2
  exact hK _ _ (KeepsFrom.refl _ _) (Below.refl _ _) ⟨(by rw [List.getD_eq_getElem?_getD, List.getElem?_eq_getElem hlt]; rfl), v2, v3, nn, sz, t, A9, c9, h1, h2, v9, o9⟩
 case body =>
  rintro lp k a' W ⟨rfl, v2, v3, nn, sz, t, A9, c9, h1, h2, v9, o9⟩ hlt
  have hz9 := SZ.out
  have hg := LG.out
  obtain ⟨ln, hln⟩ : ∃ ln, (linesF s)[k]? = some ln := ⟨_, List.getElem?_eq_getElem hlt⟩
  have hgd : (linesF s).getD k [] = ln := by rw [List.getD_eq_getElem?_getD, hln]; rfl
  rw [hgd]
  have MEM := zh (List.mem_of_getElem? hln)
  have HLK := zh hln
  have HLL := HW.out ln (List.mem_of_getElem? hln)
  have TA := zh h1
  have TL : Hid (t.length = k) := zh (by have := allO_len h1; rw [List.length_take] at this; omega)
  have HLT := zh hlt
  have O9 := zh o9
  have SW : Hid (W0.heap.size ≤ W.heap.size) := zh (by omega)
  clear o9 h1 hln hgd hlt
  have NN := zh nn
  have KF := zh (KeepsFrom.refl W0.heap.size W)
  have V2 := zh v2
  have V3 := zh v3
  have V9 := zh v9
  clear v2 v3 v9
  gi_wp2_with fail
  refine ⟨trivial, rfl, (CallsIn.inRound lp ((callsIn_wide (n := 0)).2 (parseLine_calls ln HLL _ (GG.out _ NN.out)))).mono ?_⟩
  rintro e wp ⟨⟨r, ok, rfl, hv⟩, hb⟩
  replace NN := zh (Bgo NN.out hb)
  replace KF := zh ((KF.out).trans (keeps_of_below hb))
  replace O9 := zh (OR.next O9.out hb)
  replace SW := zh (Nat.le_trans SW.out hb.size)
  replace V2 := zn hb V2
  replace V3 := zn hb V3
  replace V9 := zn hb V9
  clear hb
  rcases hv with ⟨rfl, hn⟩ | ⟨rfl, hn⟩
  ·have R0 : parP s = none := HB1.out ln MEM.out hn
   clear hn HB1 HB2 HB3 HW MEM HLK TA PN PS
   obtain ⟨HB, VX⟩ := zl (w := wp) (.cells #[.int .i64 r.t, .int .i64 r.c, .int .i64 r.i, .int .i64 r.j, .int .i64 r.re, .int .i64 r.im, .int .i64 r.dn, .int .i64 r.n] 44)
   have LT_VX : Hid (w.heap.size < wp.heap.size ∧ w.heap.size + 1 < wp.heap.size ∧ g2 < wp.heap.size ∧ w.heap.size ≤ wp.heap.size) := zh ⟨blk_lt V2.out, blk_lt V3.out, blk_lt V9.out, NN.out.size⟩
   replace NN := zh (Bgo NN.out HB.out)
   replace KF := zh ((KF.out).trans (keeps_of_below HB.out))
   replace O9 := zh (OR.next O9.out HB.out)
   replace SW := zh (Nat.le_trans SW.out HB.out.size)
   replace V2 := zn HB V2
   replace V3 := zn HB V3
   replace V9 := zn HB V9
   clear HB
   obtain ⟨c_V2_0, f_V2_0, l_V2⟩ := zfl1 V2
   obtain ⟨c_V3_0, f_V3_0, l_V3⟩ := zfl1 V3
   obtain ⟨c_V9_0, f_V9_0, l_V9⟩ := zfl1 V9
   gi_wp2_with fail
   clear c_V2_0 f_V2_0 l_V2 c_V3_0 f_V3_0 l_V3 c_V9_0 f_V9_0 l_V9
   replace KF := zh (keep_set (keep_set (KF.out) (w.heap.size) 0 (.slice none 0 0)) (w.heap.size + 1) 0 (.int .i64 12))
   generalize hW : (((wp.alloc (.cells #[.int .i64 r.t, .int .i64 r.c, .int .i64 r.i, .int .i64 r.j, .int .i64 r.re, .int .i64 r.im, .int .i64 r.dn, .int .i64 r.n] 44)).setCell ⟨w.heap.size, 0, none⟩ (.slice none 0 0)).setCell ⟨w.heap.size + 1, 0, none⟩ (.int .i64 12)) = W2 at *
   replace V2 : Hid (W2.heap[w.heap.size]? = some (.cells #[.slice none 0 0] 22)) := zs hW (blk_set_other (blk_set (V2.out) 0 (.slice none 0 0)) (by omega) 0 (.int .i64 12))
   replace V3 : Hid (W2.heap[w.heap.size + 1]? = some (.cells #[.int .i64 12] 24)) := zs hW (blk_set (blk_set_other (V3.out) (by omega) 0 (.slice none 0 0)) 0 (.int .i64 12))
   replace V9 : Hid (W2.heap[g2]? = some (.cells #[.slice A9 t.length c9] 22)) := zs hW (blk_set_other (blk_set_other (V9.out) (by omega) 0 (.slice none 0 0)) (by omega) 0 (.int .i64 12))
   replace VX : Hid (W2.heap[wp.heap.size]? = some (.cells #[.int .i64 r.t, .int .i64 r.c, .int .i64 r.i, .int .i64 r.j, .int .i64 r.re, .int .i64 r.im, .int .i64 r.dn, .int .i64 r.n] 44)) := zs hW (blk_set_other (blk_set_other (VX.out) (by have := LT_VX.out; omega) 0 (.slice none 0 0)) (by have := LT_VX.out; omega) 0 (.int .i64 12))
   replace NN := zt hW (p := Below _ _) (Bset1 (Bset1 (NN.out) (by omega) 0 (.slice none 0 0)) (by omega) 0 (.int .i64 12))
   clear hW
   exact ⟨KF.out, rfl, R0, V2.out, V3.out, NN.out⟩
  by_cases h200 : t.length = 200
  ·have R0 : parP s = none := HB2.out (by have := TL.out; have := HLT.out; omega)
   have q8 : ((t.length : Int) == 200) = true := by rw [beq_iff_eq]; omega
   clear h200 hn HB1 HB2 HB3 HW MEM HLK TA TL PN PS
   obtain ⟨HB, VX⟩ := zl (w := wp) (.cells #[.int .i64 r.t, .int .i64 r.c, .int .i64 r.i, .int .i64 r.j, .int .i64 r.re, .int .i64 r.im, .int .i64 r.dn, .int .i64 r.n] 44)
   have LT_VX : Hid (w.heap.size < wp.heap.size ∧ w.heap.size + 1 < wp.heap.size ∧ g2 < wp.heap.size ∧ w.heap.size ≤ wp.heap.size) := zh ⟨blk_lt V2.out, blk_lt V3.out, blk_lt V9.out, NN.out.size⟩
   replace NN := zh (Bgo NN.out HB.out)
   replace KF := zh ((KF.out).trans (keeps_of_below HB.out))
   replace O9 := zh (OR.next O9.out HB.out)
   replace SW := zh (Nat.le_trans SW.out HB.out.size)
   replace V2 := zn HB V2
   replace V3 := zn HB V3
   replace V9 := zn HB V9
   clear HB
   obtain ⟨c_V2_0, f_V2_0, l_V2⟩ := zfl1 V2
   obtain ⟨c_V3_0, f_V3_0, l_V3⟩ := zfl1 V3
   obtain ⟨c_V9_0, f_V9_0, l_V9⟩ := zfl1 V9
   gi_wp2_with fail
   clear c_V2_0 f_V2_0 l_V2 c_V3_0 f_V3_0 l_V3 c_V9_0 f_V9_0 l_V9
   replace KF := zh (keep_set (keep_set (KF.out) (w.heap.size) 0 (.slice none 0 0)) (w.heap.size + 1) 0 (.int .i64 12))
   generalize hW : (((wp.alloc (.cells #[.int .i64 r.t, .int .i64 r.c, .int .i64 r.i, .int .i64 r.j, .int .i64 r.re, .int .i64 r.im, .int .i64 r.dn, .int .i64 r.n] 44)).setCell ⟨w.heap.size, 0, none⟩ (.slice none 0 0)).setCell ⟨w.heap.size + 1, 0, none⟩ (.int .i64 12)) = W4 at *
   replace V2 : Hid (W4.heap[w.heap.size]? = some (.cells #[.slice none 0 0] 22)) := zs hW (blk_set_other (blk_set (V2.out) 0 (.slice none 0 0)) (by omega) 0 (.int .i64 12))
   replace V3 : Hid (W4.heap[w.heap.size + 1]? = some (.cells #[.int .i64 12] 24)) := zs hW (blk_set (blk_set_other (V3.out) (by omega) 0 (.slice none 0 0)) 0 (.int .i64 12))
   replace V9 : Hid (W4.heap[g2]? = some (.cells #[.slice A9 t.length c9] 22)) := zs hW (blk_set_other (blk_set_other (V9.out) (by omega) 0 (.slice none 0 0)) (by omega) 0 (.int .i64 12))
   replace VX : Hid (W4.heap[wp.heap.size]? = some (.cells #[.int .i64 r.t, .int .i64 r.c, .int .i64 r.i, .int .i64 r.j, .int .i64 r.re, .int .i64 r.im, .int .i64 r.dn, .int .i64 r.n] 44)) := zs hW (blk_set_other (blk_set_other (VX.out) (by have := LT_VX.out; omega) 0 (.slice none 0 0)) (by have := LT_VX.out; omega) 0 (.int .i64 12))
   replace NN := zt hW (p := Below _ _) (Bset1 (Bset1 (NN.out) (by omega) 0 (.slice none 0 0)) (by omega) 0 (.int .i64 12))
   clear hW
   exact ⟨KF.out, rfl, R0, V2.out, V3.out, NN.out⟩
  have q8 : ((t.length : Int) == 200) = false := by rw [beq_eq_false_iff_ne]; omega
  have TA8 : Hid (allO prP ((linesF s).take (k + 1)) = some (t ++ [r])) := zh (by obtain ⟨q1, q2⟩ := List.getElem?_eq_some_iff.1 HLK.out; rw [← List.take_append_getElem q1, q2]; exact allO_snoc hn TA.out)
  clear hn HB1 HB2 HB3 HW MEM HLK TA PN PS TL HLT
  obtain ⟨HB, VX⟩ := zl (w := wp) (.cells #[.int .i64 r.t, .int .i64 r.c, .int .i64 r.i, .int .i64 r.j, .int .i64 r.re, .int .i64 r.im, .int .i64 r.dn, .int .i64 r.n] 44)
  have LT_VX : Hid (w.heap.size < wp.heap.size ∧ w.heap.size + 1 < wp.heap.size ∧ g2 < wp.heap.size ∧ w.heap.size ≤ wp.heap.size) := zh ⟨blk_lt V2.out, blk_lt V3.out, blk_lt V9.out, NN.out.size⟩
  replace NN := zh (Bgo NN.out HB.out)
  replace KF := zh ((KF.out).trans (keeps_of_below HB.out))
  replace O9 := zh (OR.next O9.out HB.out)
  replace SW := zh (Nat.le_trans SW.out HB.out.size)
  replace V2 := zn HB V2
  replace V3 := zn HB V3
  replace V9 := zn HB V9
  clear HB
  obtain ⟨c_V9_0, f_V9_0, l_V9⟩ := zfl1 V9
  obtain ⟨c_VX_0, f_VX_0, c_VX_1, f_VX_1, c_VX_2, f_VX_2, c_VX_3, f_VX_3, c_VX_4, f_VX_4, c_VX_5, f_VX_5, c_VX_6, f_VX_6, c_VX_7, f_VX_7, l_VX⟩ := zfl8 VX
  gi_wp2_with (gi_at_builtin; refine wpListIn_app1 rfl _ _ rfl W0.heap.size _ t rfl (some ⟨wp.heap.size + 1, 0, none⟩) r rfl (O9.out.alloc _) (RT.one (blk_at _ (by simp))) ?_ ?_ ?_; omega; (rw [World.size_alloc]; have := SW.out; omega); intro A1 c1 w1 o1 q1 k1; have B1 := zh (((Below.refl W0.heap.size (wp.alloc (.cells #[.int .i64 r.t, .int .i64 r.c, .int .i64 r.i, .int .i64 r.j, .int .i64 r.re, .int .i64 r.im, .int .i64 r.dn, .int .i64 r.n] 44))).alloc SW.out _).trans q1); have O1 := zh o1; have K1 := zh (KF.out.trans (((KeepsOthers.alloc (wp.alloc (.cells #[.int .i64 r.t, .int .i64 r.c, .int .i64 r.i, .int .i64 r.j, .int .i64 r.re, .int .i64 r.im, .int .i64 r.dn, .int .i64 r.n] 44)) _).trans k1).from W0.heap.size)); have V91 := zh (blk_B B1.out V9.out (by omega)); have c9a := blk_cell V91.out 0 (.slice A9 t.length c9) rfl; have f9a := blk_frozen V91.out 0; have l9a := blk_lt V91.out; clear o1 q1 k1)
  clear c_V9_0 f_V9_0 l_V9 c_VX_0 f_VX_0 c_VX_1 f_VX_1 c_VX_2 f_VX_2 c_VX_3 f_VX_3 c_VX_4 f_VX_4 c_VX_5 f_VX_5 c_VX_6 f_VX_6 c_VX_7 f_VX_7 l_VX
  clear c9a f9a l9a V91
  replace V2 := zh (blk_B B1.out V2.out (by omega))
  replace V3 := zh (blk_B B1.out V3.out (by omega))
  replace V9 := zh (blk_B B1.out V9.out (by omega))
  replace NN := zh (NN.out.trans (B1.out.mono (by omega)))
  replace KF := K1
  clear VX LT_VX
  replace KF := zh (keep_set (KF.out) (g2) 0 (.slice A1 (t.length + 1) c1))
  replace O1 := zh (OR.set_other (O1.out) (show g2 < W0.heap.size by omega) 0 (.slice A1 (t.length + 1) c1))
  generalize hW : (w1.setCell ⟨g2, 0, none⟩ (.slice A1 (t.length + 1) c1)) = W6 at *
  replace V2 : Hid (W6.heap[w.heap.size]? = some (.cells #[.slice none 0 0] 22)) := zs hW (blk_set_other (V2.out) (by omega) 0 (.slice A1 (t.length + 1) c1))
  replace V3 : Hid (W6.heap[w.heap.size + 1]? = some (.cells #[.int .i64 0] 24)) := zs hW (blk_set_other (V3.out) (by omega) 0 (.slice A1 (t.length + 1) c1))
  replace V9 : Hid (W6.heap[g2]? = some (.cells #[.slice A1 (t.length + 1) c1] 22)) := zs hW (blk_set (V9.out) 0 (.slice A1 (t.length + 1) c1))
  replace NN := zt hW (p := Below _ _) (Bset1 (NN.out) (by omega) 0 (.slice A1 (t.length + 1) c1))
  clear hW
  refine ⟨KF.out, below_mid nn NN.out KF.out.size, V2.out, V3.out, NN.out, by have := KF.out.size; omega, t ++ [r], A1, c1, TA8.out, ?_, ?_, ?_⟩
  ·rw [List.length_append, List.length_singleton]; omega
  ·rw [List.length_append, List.length_singleton]; exact V9.out
  ·rw [List.length_append, List.length_singleton]; exact O1.out
 case done =>
  rintro D W hD ⟨v2, v3, nn, sz, t, A9, c9, h1, h2, v9, o9⟩ hK
  have hz9 := SZ.out
  have hg := LG.out
  rw [List.take_length] at h1
  have PF := zh (HB3.out t h1)
  have O9 := zh o9
  have HK := zh hK
  have TX := zh (txE_ok (t := t) (s := s) h0)
  obtain ⟨A8, c8, hv8, hc8, hc8', hrt, hap⟩ := OR.form o9
  injection hv8 with e1 e2 e3
  subst e1 e3
  clear e2 h1 hK HB1 HB2 HB3 HW o9
  have NN := zh nn
  have V2 := zh v2
  have V3 := zh v3
  have V9 := zh v9
  clear v2 v3 v9
  obtain ⟨c_V9_0, f_V9_0, l_V9⟩ := zfl1 V9
  gi_wp2_with fail
  clear c_V9_0 f_V9_0 l_V9
  refine ⟨trivial, rfl, ((callsIn_wide (n := 0)).2 (ttext_calls hrt hap hc8 hc8' (GG.out _ NN.out))).mono ?_⟩
  rintro e wt ⟨rfl, hb⟩
  replace NN := zh (Bgo NN.out hb)
  replace HK := zn hb HK
  replace O9 := zh (OR.next O9.out hb)
  replace V2 := zn hb V2
  replace V3 := zn hb V3
  replace V9 := zn hb V9
  clear hb hrt hap hc8 hc8'
  by_cases hx : txE t = 0 ∧ txO t = s
  ·have E0 := zh (PS.out t (by rw [PF.out]; exact if_pos (TX.out.1 hx)))
   obtain ⟨x1, x2⟩ := hx
   rw [x1, x2]
   clear x1 x2 PF PN PS TX
   have q8 : (s == s) = true := beq_self_eq_true _
   obtain ⟨c_V2_0, f_V2_0, l_V2⟩ := zfl1 V2
   obtain ⟨c_V3_0, f_V3_0, l_V3⟩ := zfl1 V3
   obtain ⟨c_V9_0, f_V9_0, l_V9⟩ := zfl1 V9
   gi_wp2_with fail
   clear c_V2_0 f_V2_0 l_V2 c_V3_0 f_V3_0 l_V3 c_V9_0 f_V9_0 l_V9
   replace HK := zh (blk_set_other (b' := w.heap.size + 1) (blk_set_other (b' := w.heap.size) HK.out (by omega) 0 (.slice A9 t.length c9)) (by omega) 0 (.int .i64 0))
   replace O9 := zh (OR.set_other (OR.set_other (O9.out) (show w.heap.size < W0.heap.size by omega) 0 (.slice A9 t.length c9)) (show w.heap.size + 1 < W0.heap.size by omega) 0 (.int .i64 0))
   generalize hW : ((wt.setCell ⟨w.heap.size, 0, none⟩ (.slice A9 t.length c9)).setCell ⟨w.heap.size + 1, 0, none⟩ (.int .i64 0)) = W1 at *
   replace V2 : Hid (W1.heap[w.heap.size]? = some (.cells #[.slice A9 t.length c9] 22)) := zs hW (blk_set_other (blk_set (V2.out) 0 (.slice A9 t.length c9)) (by omega) 0 (.int .i64 0))
   replace V3 : Hid (W1.heap[w.heap.size + 1]? = some (.cells #[.int .i64 0] 24)) := zs hW (blk_set (blk_set_other (V3.out) (by omega) 0 (.slice A9 t.length c9)) 0 (.int .i64 0))
   replace V9 : Hid (W1.heap[g2]? = some (.cells #[.slice A9 t.length c9] 22)) := zs hW (blk_set_other (blk_set_other (V9.out) (by omega) 0 (.slice A9 t.length c9)) (by omega) 0 (.int .i64 0))
   replace NN := zt hW (p := Below _ _) (Bset1 (Bset1 (NN.out) (by omega) 0 (.slice A9 t.length c9)) (by omega) 0 (.int .i64 0))
   clear hW
   refine ⟨by simp, .inl ⟨_, _, rfl, run_takeDeferred HK.out, ?_⟩⟩
   have e0 := blk_cell (put_blk (D := D) (o' := .deferred none) V2.out (by omega)) 0 (.slice A9 t.length c9) rfl
   have e1 := blk_cell (put_blk (D := D) (o' := .deferred none) V3.out (by omega)) 0 (.int .i64 0) rfl
   exact ⟨.tuple #[.slice A9 t.length c9, .int .i64 0], by simp [results, Tryz.results11, go_sem, e0, e1], ⟨_, by rw [E0.out.1], put_below NN.out (by omega) (Nat.le_refl _) HK.out, by rw [E0.out.2]; exact ownsRow_putObj (OR.mono O9.out (by omega)) _ HK.out rfl⟩⟩
  by_cases h1 : txE t = 0
  ·have h2 : txO t ≠ s := fun h => hx ⟨h1, h⟩
   have q7 : (txE t != 0) = false := by rw [h1]; rfl
   have q8 : (txO t == s) = false := by rw [beq_eq_false_iff_ne]; exact h2
   have HX := hx
   clear h1 h2
   have E0 := zh (PN.out (by rw [PF.out]; exact if_neg (fun h => hx (TX.out.2 h))))
   clear PF PN PS
   obtain ⟨c_V2_0, f_V2_0, l_V2⟩ := zfl1 V2
   obtain ⟨c_V3_0, f_V3_0, l_V3⟩ := zfl1 V3
   gi_wp2_with fail
   clear c_V2_0 f_V2_0 l_V2 c_V3_0 f_V3_0 l_V3
   replace HK := zh (blk_set_other (b' := w.heap.size + 1) (blk_set_other (b' := w.heap.size) HK.out (by omega) 0 (.slice none 0 0)) (by omega) 0 (.int .i64 12))
   generalize hW : ((wt.setCell ⟨w.heap.size, 0, none⟩ (.slice none 0 0)).setCell ⟨w.heap.size + 1, 0, none⟩ (.int .i64 12)) = W2 at *
   replace V2 : Hid (W2.heap[w.heap.size]? = some (.cells #[.slice none 0 0] 22)) := zs hW (blk_set_other (blk_set (V2.out) 0 (.slice none 0 0)) (by omega) 0 (.int .i64 12))
   replace V3 : Hid (W2.heap[w.heap.size + 1]? = some (.cells #[.int .i64 12] 24)) := zs hW (blk_set (blk_set_other (V3.out) (by omega) 0 (.slice none 0 0)) 0 (.int .i64 12))
   replace V9 : Hid (W2.heap[g2]? = some (.cells #[.slice A9 t.length c9] 22)) := zs hW (blk_set_other (blk_set_other (V9.out) (by omega) 0 (.slice none 0 0)) (by omega) 0 (.int .i64 12))
   replace NN := zt hW (p := Below _ _) (Bset1 (Bset1 (NN.out) (by omega) 0 (.slice none 0 0)) (by omega) 0 (.int .i64 12))
   clear hW
   refine ⟨by simp, .inl ⟨_, _, rfl, run_takeDeferred HK.out, ?_⟩⟩
   have e0 := blk_cell (put_blk (D := D) (o' := .deferred none) V2.out (by omega)) 0 (.slice none 0 0) rfl
   have e1 := blk_cell (put_blk (D := D) (o' := .deferred none) V3.out (by omega)) 0 (.int .i64 12) rfl
   exact ⟨.tuple #[.slice none 0 0, .int .i64 12], by simp [results, Tryz.results11, go_sem, e0, e1], ⟨_, by rw [E0.out.1], put_below NN.out (by omega) (Nat.le_refl _) HK.out, by rw [E0.out.2]; exact OR.nil _ _⟩⟩
  ·have q7 : (txE t != 0) = true := by rw [bne_iff_ne]; exact h1
   clear h1
   have E0 := zh (PN.out (by rw [PF.out]; exact if_neg (fun h => hx (TX.out.2 h))))
   clear PF PN PS
   obtain ⟨c_V2_0, f_V2_0, l_V2⟩ := zfl1 V2
   obtain ⟨c_V3_0, f_V3_0, l_V3⟩ := zfl1 V3
   gi_wp2_with fail
   clear c_V2_0 f_V2_0 l_V2 c_V3_0 f_V3_0 l_V3
   replace HK := zh (blk_set_other (b' := w.heap.size + 1) (blk_set_other (b' := w.heap.size) HK.out (by omega) 0 (.slice none 0 0)) (by omega) 0 (.int .i64 12))
   generalize hW : ((wt.setCell ⟨w.heap.size, 0, none⟩ (.slice none 0 0)).setCell ⟨w.heap.size + 1, 0, none⟩ (.int .i64 12)) = W3 at *
   replace V2 : Hid (W3.heap[w.heap.size]? = some (.cells #[.slice none 0 0] 22)) := zs hW (blk_set_other (blk_set (V2.out) 0 (.slice none 0 0)) (by omega) 0 (.int .i64 12))
   replace V3 : Hid (W3.heap[w.heap.size + 1]? = some (.cells #[.int .i64 12] 24)) := zs hW (blk_set (blk_set_other (V3.out) (by omega) 0 (.slice none 0 0)) 0 (.int .i64 12))
   replace V9 : Hid (W3.heap[g2]? = some (.cells #[.slice A9 t.length c9] 22)) := zs hW (blk_set_other (blk_set_other (V9.out) (by omega) 0 (.slice none 0 0)) (by omega) 0 (.int .i64 12))
   replace NN := zt hW (p := Below _ _) (Bset1 (Bset1 (NN.out) (by omega) 0 (.slice none 0 0)) (by omega) 0 (.int .i64 12))
   clear hW
   refine ⟨by simp, .inl ⟨_, _, rfl, run_takeDeferred HK.out, ?_⟩⟩
   have e0 := blk_cell (put_blk (D := D) (o' := .deferred none) V2.out (by omega)) 0 (.slice none 0 0) rfl
   have e1 := blk_cell (put_blk (D := D) (o' := .deferred none) V3.out (by omega)) 0 (.int .i64 12) rfl
   exact ⟨.tuple #[.slice none 0 0, .int .i64 12], by simp [results, Tryz.results11, go_sem, e0, e1], ⟨_, by rw [E0.out.1], put_below NN.out (by omega) (Nat.le_refl _) HK.out, by rw [E0.out.2]; exact OR.nil _ _⟩⟩
 case stop =>
  rintro D cd k W hD hlt ⟨rfl, hp, v2, v3, nn⟩ hK
  have hDs := SZ.out
  have hg := LG.out
  have E0 := zh (PN.out hp)
  have V2 := zh v2
  have V3 := zh v3
  have NN := zh nn
  have HK := zh hK
  clear PN PS HB1 HB2 HB3 HW v2 v3 nn hK hp
  gi_wp2
  refine ⟨by simp, .inl ⟨_, _, rfl, run_takeDeferred HK.out, ?_⟩⟩
  have e0 := blk_cell (put_blk (D := D) (o' := .deferred none) V2.out (by omega)) 0 (.slice none 0 0) rfl
  have e1 := blk_cell (put_blk (D := D) (o' := .deferred none) V3.out (by omega)) 0 (.int .i64 12) rfl
  exact ⟨.tuple #[.slice none 0 0, .int .i64 12], by simp [results, Tryz.results11, go_sem, e0, e1], ⟨_, by rw [E0.out.1], put_below NN.out (by omega) (Nat.le_refl _) HK.out, by rw [E0.out.2]; exact OR.nil _ _⟩⟩
end
end Go.Proofs.YtbbnkclajpaghaaGreatDoor
