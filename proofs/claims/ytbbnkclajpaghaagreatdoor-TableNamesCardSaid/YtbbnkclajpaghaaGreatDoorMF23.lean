/- Several texts in one. -/
import Derived.Test.YtbbnkclajpaghaaGreatDoorMF03
set_option maxHeartbeats 8000000
set_option maxRecDepth 100000
set_option linter.unusedVariables false
set_option linter.unusedSimpArgs false
namespace Go.Proofs.YtbbnkclajpaghaaGreatDoor
open Go.ChangeShapes Go.WideShapes Go.ChangeAt Go.RowKit
attribute [local go_sem] Oper.semAt_some
theorem put_split {l : List Vr} {r : Vr} {k : Nat} (hg : goodB l = true) (hk : k ≤ l.length) (hlo : ∀ j, j < k → vkey (rowAt l j) < vkey r) (hgt : k < l.length → vkey r < vkey (rowAt l k)) :
  l.takeWhile (fun x => decide (vkey x < vkey r)) = l.take k ∧ l.dropWhile (fun x => decide (vkey x < vkey r)) = l.drop k := by
 refine tw_split (List.take_append_drop k l).symm (fun x hx => ?_) (fun x hx => ?_)
 ·obtain ⟨j, hj, rfl⟩ := List.mem_take_iff_getElem.1 hx
  have := hlo j (by omega)
  rw [rowAt_lt (by omega)] at this
  simpa using this
 ·by_cases h : k < l.length
  ·have := hgt h
   rw [rowAt_lt h] at this
   rw [List.drop_eq_getElem_cons h] at hx
   simp only [List.head?_cons, Option.some.injEq] at hx
   subst hx
   simp; omega
  ·rw [List.drop_eq_nil_of_le (by omega)] at hx; cases hx
theorem put_ne {l : List Vr} {r : Vr} {k : Nat} (hg : goodB l = true) (hk : k < l.length) (hlo : ∀ j, j < k → vkey (rowAt l j) < vkey r) (hgt : vkey r < vkey (rowAt l k)) : ∀ x ∈ l, vkey x ≠ vkey r := by
 have e : l = l.take k ++ l[k] :: l.drop (k + 1) := by
  rw [← List.drop_eq_getElem_cons hk, List.take_append_drop]
 have hg' := hg
 rw [e] at hg'
 have hs := good_split hg'
 rw [rowAt_lt hk] at hgt
 intro x hx
 rw [e] at hx
 rcases List.mem_append.1 hx with h | h
 ·obtain ⟨j, hj, rfl⟩ := List.mem_take_iff_getElem.1 h
  have := hlo j (by omega)
  rw [rowAt_lt (by omega)] at this
  omega
 ·rcases List.mem_cons.1 h with rfl | h
  ·omega
  ·have := hs x h; omega
theorem put_full {l : List Vr} {r : Vr} (h0 : chkE l = 0) (hr : rowB r = true) (hn : ∀ x ∈ l, vkey x ≠ vkey r) (h2 : l.length = 200) : putE l r = 4 := by
 have ha : (l.any fun x => decide (vkey x = vkey r)) = false := by simpa using hn
 unfold putE
 rw [h0, if_neg (by omega), if_neg (by rw [hr]; simp), ha, if_neg (by simp), if_pos h2]
theorem put_none {l : List Vr} {r : Vr} (h0 : chkE l = 0) (hr : rowB r = true) (hn : ∀ x ∈ l, vkey x ≠ vkey r) (h2 : l.length ≠ 200) : putE l r = 0 := by
 have ha : (l.any fun x => decide (vkey x = vkey r)) = false := by simpa using hn
 unfold putE
 rw [h0, if_neg (by omega), if_neg (by rw [hr]; simp), ha, if_neg (by simp), if_neg h2]
theorem put_twice {l : List Vr} {r : Vr} (h0 : chkE l = 0) (hr : rowB r = true) (hn : ∃ x ∈ l, vkey x = vkey r) : putE l r = 14 := by
 have ha : (l.any fun x => decide (vkey x = vkey r)) = true := by simpa using hn
 unfold putE
 rw [h0, if_neg (by omega), if_neg (by rw [hr]; simp), ha, if_pos rfl]
theorem put_calls {A : Option Addr} {c : Nat} {l : List Vr} {w : World} (r : Vr) (hl : RT w A l) (hA : ∀ b off, A = some ⟨b, off, none⟩ → b < w.heap.size) (hc : l.length ≤ c) (hc' : c ≤ 9223372036854775807) : Calls Tryz.prog 21 #[.slice A l.length c, Rwv r] w fun e w' =>
  ∃ v, e = .returned (.tuple #[v, .int .i64 (putE l r)]) ∧ OR w.heap.size w' v (putL l r) ∧ Below w.heap.size w w' := by
 have CK : Hid (∀ W : World, Below w.heap.size w W → Calls Tryz.prog 20 #[.slice A l.length c] W fun e w' => e = .returned (.int .i64 (chkE l)) ∧ Below W.heap.size W w') := zh (fun W (hb : Below w.heap.size w W) => chk_calls (w := W) (hl.next hb) (fun b off h => Nat.lt_of_lt_of_le (hA b off h) hb.size) hc hc')
 have HV := zh (rowvalid_calls r)
 obtain ⟨pe, hpe⟩ : ∃ pe, putE l r = pe := ⟨_, rfl⟩
 obtain ⟨pl, hpl⟩ : ∃ pl, putL l r = pl := ⟨_, rfl⟩
 obtain ⟨E, hE⟩ : ∃ E, chkE l = E := ⟨_, rfl⟩
 have HPE := zh hpe
 have HPL := zh hpl
 have HEE := zh hE
 rw [hpe, hpl]
 rw [hE] at CK
 clear hpe hpl hE
 have HL := zh hl
 have HA := zh hA
 have NN := zh (Below.refl w.heap.size w)
 clear hl hA
 refine (callsIn_wide (n := 0)).1 ?_
 refine callsIn_of_wp_marks Tryz.func21 rfl trivial ?_ rfl
 simp only [Tryz.ntmps21, List.size_toArray, List.length_cons, List.length_nil, Nat.reduceAdd, Nat.reduceSub, Array.replicate_succ, Array.replicate_zero, List.push_toArray, List.append_toArray, List.nil_append, List.cons_append]
 gi_wp2_with fail
 have V3 : Hid ((((w.alloc (.cells #[.int .i64 r.t, .int .i64 r.c, .int .i64 r.i, .int .i64 r.j, .int .i64 r.re, .int .i64 r.im, .int .i64 r.dn, .int .i64 r.n] 44)).alloc (.cells #[.slice none 0 0] 22)).alloc (.cells #[.int .i64 0] 24)).heap[w.heap.size]? = some (.cells #[.int .i64 r.t, .int .i64 r.c, .int .i64 r.i, .int .i64 r.j, .int .i64 r.re, .int .i64 r.im, .int .i64 r.dn, .int .i64 r.n] 44)) := zh (blk_alloc (blk_alloc (blk_new w _) _) _)
 have V4 : Hid ((((w.alloc (.cells #[.int .i64 r.t, .int .i64 r.c, .int .i64 r.i, .int .i64 r.j, .int .i64 r.re, .int .i64 r.im, .int .i64 r.dn, .int .i64 r.n] 44)).alloc (.cells #[.slice none 0 0] 22)).alloc (.cells #[.int .i64 0] 24)).heap[w.heap.size + 1]? = some (.cells #[.slice none 0 0] 22)) := zh (blk_alloc (blk_at _ (by simp)) _)
 have V5 : Hid ((((w.alloc (.cells #[.int .i64 r.t, .int .i64 r.c, .int .i64 r.i, .int .i64 r.j, .int .i64 r.re, .int .i64 r.im, .int .i64 r.dn, .int .i64 r.n] 44)).alloc (.cells #[.slice none 0 0] 22)).alloc (.cells #[.int .i64 0] 24)).heap[w.heap.size + 1 + 1]? = some (.cells #[.int .i64 0] 24)) := zh (blk_at _ (by simp))
 replace NN : Hid (Below w.heap.size w (((w.alloc (.cells #[.int .i64 r.t, .int .i64 r.c, .int .i64 r.i, .int .i64 r.j, .int .i64 r.re, .int .i64 r.im, .int .i64 r.dn, .int .i64 r.n] 44)).alloc (.cells #[.slice none 0 0] 22)).alloc (.cells #[.int .i64 0] 24))) := zh (Bal (Bal (Bal NN.out _) _) _)
 generalize (((w.alloc (.cells #[.int .i64 r.t, .int .i64 r.c, .int .i64 r.i, .int .i64 r.j, .int .i64 r.re, .int .i64 r.im, .int .i64 r.dn, .int .i64 r.n] 44)).alloc (.cells #[.slice none 0 0] 22)).alloc (.cells #[.int .i64 0] 24)) = W1 at *
 refine ⟨trivial, rfl, ((callsIn_wide (n := 0)).2 (CK.out _ NN.out)).mono ?_⟩
 rintro e w2 ⟨rfl, hb⟩
 replace NN := zh (Bgo NN.out hb)
 replace V3 := zn hb V3
 replace V4 := zn hb V4
 replace V5 := zn hb V5
 clear hb
 by_cases h0 : E ≠ 0
 ·have q1 : (E != 0) = true := by simpa using h0
  have HE0 := zh h0
  clear h0
  obtain ⟨c_V4_0, f_V4_0, l_V4⟩ := zfl1 V4
  obtain ⟨c_V5_0, f_V5_0, l_V5⟩ := zfl1 V5
  gi_wp2_with fail
  clear c_V4_0 f_V4_0 l_V4 c_V5_0 f_V5_0 l_V5
  generalize hW : ((w2.setCell ⟨w.heap.size + 1, 0, none⟩ (.slice none 0 0)).setCell ⟨w.heap.size + 1 + 1, 0, none⟩ (.int .i64 E)) = W3 at *
  replace V3 : Hid (W3.heap[w.heap.size]? = some (.cells #[.int .i64 r.t, .int .i64 r.c, .int .i64 r.i, .int .i64 r.j, .int .i64 r.re, .int .i64 r.im, .int .i64 r.dn, .int .i64 r.n] 44)) := zs hW (blk_set_other (blk_set_other (V3.out) (by omega) 0 (.slice none 0 0)) (by omega) 0 (.int .i64 E))
  replace V4 : Hid (W3.heap[w.heap.size + 1]? = some (.cells #[.slice none 0 0] 22)) := zs hW (blk_set_other (blk_set (V4.out) 0 (.slice none 0 0)) (by omega) 0 (.int .i64 E))
  replace V5 : Hid (W3.heap[w.heap.size + 1 + 1]? = some (.cells #[.int .i64 E] 24)) := zs hW (blk_set (blk_set_other (V5.out) (by omega) 0 (.slice none 0 0)) 0 (.int .i64 E))
  replace NN := zt hW (p := Below _ _) (Bset1 (Bset1 (NN.out) (by omega) 0 (.slice none 0 0)) (by omega) 0 (.int .i64 E))
  clear hW
  have e0 := blk_cell V4.out 0 (.slice none 0 0) rfl
  have e1 := blk_cell V5.out 0 (.int .i64 E) rfl
  have h1 : putE l r = E := by unfold putE; rw [HEE.out, if_pos HE0.out]
  have h2 : putL l r = [] := by unfold putL; rw [h1]; exact if_neg HE0.out
  exact ⟨.tuple #[.slice none 0 0, .int .i64 E], by simp [results, Tryz.results21, go_sem, e0, e1], ⟨_, by rw [← HPE.out, h1], by rw [← HPL.out, h2]; exact OR.nil _ _, NN.out⟩⟩
 have h0' : E = 0 := by omega
 subst h0'
 clear h0
 obtain ⟨hg, hn⟩ := chkE_good HEE.out
 have HG := zh hg
 clear hg
 obtain ⟨c_V3_0, f_V3_0, c_V3_1, f_V3_1, c_V3_2, f_V3_2, c_V3_3, f_V3_3, c_V3_4, f_V3_4, c_V3_5, f_V3_5, c_V3_6, f_V3_6, c_V3_7, f_V3_7, l_V3⟩ := zfl8 V3
 gi_wp2_with fail
 refine ⟨trivial, rfl, ((callsIn_wide (n := 0)).2 (HV.out _)).mono ?_⟩
 rintro e w4 ⟨rfl, hb⟩
 clear c_V3_0 f_V3_0 c_V3_1 f_V3_1 c_V3_2 f_V3_2 c_V3_3 f_V3_3 c_V3_4 f_V3_4 c_V3_5 f_V3_5 c_V3_6 f_V3_6 c_V3_7 f_V3_7 l_V3
 replace NN := zh (Bgo NN.out hb)
 replace V3 := zn hb V3
 replace V4 := zn hb V4
 replace V5 := zn hb V5
 clear hb
 cases hr : rowB r
 ·have HR := zh hr
  clear hr
  obtain ⟨c_V4_0, f_V4_0, l_V4⟩ := zfl1 V4
  obtain ⟨c_V5_0, f_V5_0, l_V5⟩ := zfl1 V5
  gi_wp2_with fail
  clear c_V4_0 f_V4_0 l_V4 c_V5_0 f_V5_0 l_V5
  generalize hW : ((w4.setCell ⟨w.heap.size + 1, 0, none⟩ (.slice none 0 0)).setCell ⟨w.heap.size + 1 + 1, 0, none⟩ (.int .i64 8)) = W5 at *
  replace V3 : Hid (W5.heap[w.heap.size]? = some (.cells #[.int .i64 r.t, .int .i64 r.c, .int .i64 r.i, .int .i64 r.j, .int .i64 r.re, .int .i64 r.im, .int .i64 r.dn, .int .i64 r.n] 44)) := zs hW (blk_set_other (blk_set_other (V3.out) (by omega) 0 (.slice none 0 0)) (by omega) 0 (.int .i64 8))
  replace V4 : Hid (W5.heap[w.heap.size + 1]? = some (.cells #[.slice none 0 0] 22)) := zs hW (blk_set_other (blk_set (V4.out) 0 (.slice none 0 0)) (by omega) 0 (.int .i64 8))
  replace V5 : Hid (W5.heap[w.heap.size + 1 + 1]? = some (.cells #[.int .i64 8] 24)) := zs hW (blk_set (blk_set_other (V5.out) (by omega) 0 (.slice none 0 0)) 0 (.int .i64 8))
  replace NN := zt hW (p := Below _ _) (Bset1 (Bset1 (NN.out) (by omega) 0 (.slice none 0 0)) (by omega) 0 (.int .i64 8))
  clear hW
  have e0 := blk_cell V4.out 0 (.slice none 0 0) rfl
  have e1 := blk_cell V5.out 0 (.int .i64 8) rfl
  have h1 : putE l r = 8 := by unfold putE; rw [HEE.out, if_neg (by omega), if_pos HR.out]
  have h2 : putL l r = [] := by unfold putL; rw [h1]; exact if_neg (by omega)
  exact ⟨.tuple #[.slice none 0 0, .int .i64 8], by simp [results, Tryz.results21, go_sem, e0, e1], ⟨_, by rw [← HPE.out, h1], by rw [← HPL.out, h2]; exact OR.nil _ _, NN.out⟩⟩
 have HR := zh hr
 clear hr
 obtain ⟨c_V3_0, f_V3_0, c_V3_1, f_V3_1, c_V3_2, f_V3_2, c_V3_3, f_V3_3, c_V3_4, f_V3_4, c_V3_5, f_V3_5, c_V3_6, f_V3_6, c_V3_7, f_V3_7, l_V3⟩ := zfl8 V3
 gi_wp2_with fail
 clear c_V3_0 f_V3_0 c_V3_1 f_V3_1 c_V3_2 f_V3_2 c_V3_3 f_V3_3 c_V3_4 f_V3_4 c_V3_5 f_V3_5 c_V3_6 f_V3_6 c_V3_7 f_V3_7 l_V3
 refine ⟨trivial, rfl, (callsIn_wide.2 (rows_calls A _ c _)).mono ?_⟩
 rintro e w9 ⟨rfl, rfl⟩
 gi_wp2_with fail
 have LG : Hid (w.heap.size + 3 ≤ w4.heap.size) := zh (by have := blk_lt V5.out; omega)
 replace NN : Hid (Below w.heap.size w (((w4.alloc (.cells #[.func (.func 42) #[] #[]] 93)).alloc (.cells #[.int .i64 (l.length : Int)] 3)).alloc (.cells #[.slice A l.length c] 22))) := zh (Bal (Bal (Bal NN.out _) _) _)
 have SZ : Hid ((((w4.alloc (.cells #[.func (.func 42) #[] #[]] 93)).alloc (.cells #[.int .i64 (l.length : Int)] 3)).alloc (.cells #[.slice A l.length c] 22)).heap.size = w4.heap.size + 3) := zh (by simp)
 replace V3 : Hid ((((w4.alloc (.cells #[.func (.func 42) #[] #[]] 93)).alloc (.cells #[.int .i64 (l.length : Int)] 3)).alloc (.cells #[.slice A l.length c] 22)).heap[w.heap.size]? = some (.cells #[.int .i64 r.t, .int .i64 r.c, .int .i64 r.i, .int .i64 r.j, .int .i64 r.re, .int .i64 r.im, .int .i64 r.dn, .int .i64 r.n] 44)) := zh (blk_alloc (blk_alloc (blk_alloc V3.out _) _) _)
 replace V4 : Hid ((((w4.alloc (.cells #[.func (.func 42) #[] #[]] 93)).alloc (.cells #[.int .i64 (l.length : Int)] 3)).alloc (.cells #[.slice A l.length c] 22)).heap[w.heap.size + 1]? = some (.cells #[.slice none 0 0] 22)) := zh (blk_alloc (blk_alloc (blk_alloc V4.out _) _) _)
 replace V5 : Hid ((((w4.alloc (.cells #[.func (.func 42) #[] #[]] 93)).alloc (.cells #[.int .i64 (l.length : Int)] 3)).alloc (.cells #[.slice A l.length c] 22)).heap[w.heap.size + 1 + 1]? = some (.cells #[.int .i64 0] 24)) := zh (blk_alloc (blk_alloc (blk_alloc V5.out _) _) _)
 have V7 : Hid ((((w4.alloc (.cells #[.func (.func 42) #[] #[]] 93)).alloc (.cells #[.int .i64 (l.length : Int)] 3)).alloc (.cells #[.slice A l.length c] 22)).heap[w4.heap.size]? = some (.cells #[.func (.func 42) #[] #[]] 93)) := zh (blk_alloc (blk_alloc (blk_new w4 _) _) _)
 have V8 : Hid ((((w4.alloc (.cells #[.func (.func 42) #[] #[]] 93)).alloc (.cells #[.int .i64 (l.length : Int)] 3)).alloc (.cells #[.slice A l.length c] 22)).heap[w4.heap.size + 1]? = some (.cells #[.int .i64 (l.length : Int)] 3)) := zh (blk_alloc (blk_at _ (by simp)) _)
 have VT : Hid ((((w4.alloc (.cells #[.func (.func 42) #[] #[]] 93)).alloc (.cells #[.int .i64 (l.length : Int)] 3)).alloc (.cells #[.slice A l.length c] 22)).heap[w4.heap.size + 1 + 1]? = some (.cells #[.slice A l.length c] 22)) := zh (blk_at _ (by simp))
 generalize (((w4.alloc (.cells #[.func (.func 42) #[] #[]] 93)).alloc (.cells #[.int .i64 (l.length : Int)] 3)).alloc (.cells #[.slice A l.length c] 22)) = W0 at *
 generalize w4.heap.size = g4 at *
 refine range_n 50 #[.pointer (some ⟨g4 + 1 + 1, 0, none⟩)] rfl (enters_of Tryz.func50 (by kernel_rfl) rfl) (encR l) w.heap.size l.length
  (rows_seq (HL.out.next NN.out) HA.out (by omega) (by have := SZ.out; have := LG.out; omega) VT.out) (by have := SZ.out; have := LG.out; omega) (fun _ => rfl)
  (fun k W => (W.heap[w.heap.size]? = some (.cells #[.int .i64 r.t, .int .i64 r.c, .int .i64 r.i, .int .i64 r.j, .int .i64 r.re, .int .i64 r.im, .int .i64 r.dn, .int .i64 r.n] 44)) ∧ (W.heap[w.heap.size + 1]? = some (.cells #[.slice none 0 0] 22)) ∧ (W.heap[w.heap.size + 1 + 1]? = some (.cells #[.int .i64 0] 24)) ∧ (W.heap[g4]? = some (.cells #[.func (.func 42) #[] #[]] 93)) ∧ (W.heap[g4 + 1]? = some (.cells #[.int .i64 (l.length : Int)] 3)) ∧ (Below w.heap.size w W) ∧ (g4 + 3 ≤ W.heap.size) ∧ (∀ j, j < k → vkey (rowAt l j) < vkey r))
  (fun cd k W => ((cd = .ret) ∧ (∃ x ∈ l, vkey x = vkey r) ∧ (W.heap[w.heap.size + 1]? = some (.cells #[.slice none 0 0] 22)) ∧ (W.heap[w.heap.size + 1 + 1]? = some (.cells #[.int .i64 14] 24)) ∧ (Below w.heap.size w W)) ∨ ((cd = .exit 0) ∧ ((∀ j, j < k → vkey (rowAt l j) < vkey r) ∧ vkey r < vkey (rowAt l k)) ∧ (W.heap[w.heap.size]? = some (.cells #[.int .i64 r.t, .int .i64 r.c, .int .i64 r.i, .int .i64 r.j, .int .i64 r.re, .int .i64 r.im, .int .i64 r.dn, .int .i64 r.n] 44)) ∧ (W.heap[w.heap.size + 1]? = some (.cells #[.slice none 0 0] 22)) ∧ (W.heap[w.heap.size + 1 + 1]? = some (.cells #[.int .i64 0] 24)) ∧ (W.heap[g4 + 1]? = some (.cells #[.int .i64 (k : Int)] 3)) ∧ (Below w.heap.size w W)))
  (fun k a' W => ∃ Bx : Nat, (a' = { tmps := #[.slice A l.length c, Rwv r, undef, .pointer (some ⟨w.heap.size, 0, none⟩), .pointer (some ⟨w.heap.size + 1, 0, none⟩), .pointer (some ⟨w.heap.size + 1 + 1, 0, none⟩), .int .i64 0, .pointer (some ⟨g4, 0, none⟩), .pointer (some ⟨g4 + 1, 0, none⟩), .int .i64 (k : Int), .pointer (some ⟨Bx, 0, none⟩), undef, undef, .slice A l.length c, .int .i64 0, .int .i64 0, .bool false, undef, .agg #[.int .i64 r.t, .int .i64 r.c, .int .i64 r.i, .int .i64 r.j, .int .i64 r.re, .int .i64 r.im, .int .i64 r.dn, .int .i64 r.n], .bool true, .bool false, .slice A l.length c, .int .i64 (l.length : Int), .slice A l.length c, .func (.func 50) #[] #[.pointer (some ⟨g4 + 1 + 1, 0, none⟩)], .int .i64 (k : Int), Rwv (rowAt l k), undef, undef, undef, undef, undef, undef, undef, undef, undef, undef, undef, undef, undef, undef, undef, undef, undef, undef, undef, undef, undef, undef, undef, undef, undef, undef, undef, undef, undef, undef], defers := [] }) ∧ (g4 + 3 ≤ Bx) ∧ (W.heap[Bx]? = some (.cells #[.int .i64 (rowAt l k).t, .int .i64 (rowAt l k).c, .int .i64 (rowAt l k).i, .int .i64 (rowAt l k).j, .int .i64 (rowAt l k).re, .int .i64 (rowAt l k).im, .int .i64 (rowAt l k).dn, .int .i64 (rowAt l k).n] 67)) ∧ (W.heap[w.heap.size]? = some (.cells #[.int .i64 r.t, .int .i64 r.c, .int .i64 r.i, .int .i64 r.j, .int .i64 r.re, .int .i64 r.im, .int .i64 r.dn, .int .i64 r.n] 44)) ∧ (W.heap[w.heap.size + 1]? = some (.cells #[.slice none 0 0] 22)) ∧ (W.heap[w.heap.size + 1 + 1]? = some (.cells #[.int .i64 0] 24)) ∧ (W.heap[g4]? = some (.cells #[.func (.func 42) #[] #[]] 93)) ∧ (W.heap[g4 + 1]? = some (.cells #[.int .i64 (l.length : Int)] 3)) ∧ (Below w.heap.size w W) ∧ (g4 + 3 ≤ W.heap.size) ∧ (∀ j, j < k → vkey (rowAt l j) < vkey r))
  ((own_blk _ _ _).and ((own_blk _ _ _).and ((own_blk _ _ _).and ((own_blk _ _ _).and ((own_blk _ _ _).and ((ownFrom_below (Nat.le_refl _) (by have := SZ.out; have := LG.out; omega)).and ((own_size _).and (own_pure _))))))))
  (fun _ => (own_or ((own_pure _).and ((own_pure _).and ((own_blk _ _ _).and ((own_blk _ _ _).and (ownFrom_below (Nat.le_refl _) (by have := SZ.out; have := LG.out; omega)))))) ((own_pure _).and ((own_pure _).and ((own_blk _ _ _).and ((own_blk _ _ _).and ((own_blk _ _ _).and ((own_blk _ _ _).and (ownFrom_below (Nat.le_refl _) (by have := SZ.out; have := LG.out; omega))))))))))
  (fun _ => own_ex fun _ => ((own_pure _).and ((own_pure _).and ((own_blk _ _ _).and ((own_blk _ _ _).and ((own_blk _ _ _).and ((own_blk _ _ _).and ((own_blk _ _ _).and ((own_blk _ _ _).and ((ownFrom_below (Nat.le_refl _) (by have := SZ.out; have := LG.out; omega)).and ((own_size _).and (own_pure _))))))))))))
  ⟨V3.out, V4.out, V5.out, V7.out, V8.out, NN.out, (by have := SZ.out; have := LG.out; omega), fun _ h => absurd h (Nat.not_lt_zero _)⟩ ?assign ?body ?done ?stop
 case assign =>
  rintro lp k W K ⟨v3, v4, v5, v7, v8, nn, sz, hlo⟩ hlt hK
  gi_wp2
  exact hK _ _ (keeps_of_below (Bal (Below.refl _ _) _)) ((Below.refl _ W).alloc nn.size _) ⟨W.heap.size, rfl, sz, blk_new W _, blk_alloc v3 _, blk_alloc v4 _, blk_alloc v5 _, blk_alloc v7 _, blk_alloc v8 _, Bal nn _, by rw [World.size_alloc]; omega, hlo⟩
 case body =>
  rintro lp k a' W ⟨Bx, rfl, lx, vx, v3, v4, v5, v7, v8, nn, sz, hlo⟩ hlt
  have hx : rowB (rowAt l k) = true := by rw [rowAt_lt hlt]; exact goodF_row HG.out _ (List.getElem_mem hlt)
  have hm : rowAt l k ∈ l := by rw [rowAt_lt hlt]; exact List.getElem_mem hlt
  have HK := zh (rcmp_key HR.out hx)
  have LX := zh (And.intro lx LG.out)
  have LO := zh hlo
  have HM := zh hm
  have HCC : Hid (∀ W : World, Calls Tryz.prog 42 #[Rwv r, Rwv (rowAt l k)] W fun e w' => e = .returned (.int .i64 (rcmp r (rowAt l k))) ∧ Below W.heap.size W w') := zh (compare_calls _ _)
  clear hx hm lx
  generalize hs : rowAt l k = s at *
  have NN := zh nn
  have KF := zh (KeepsFrom.refl W0.heap.size W)
  have V3 := zh v3
  have V4 := zh v4
  have V5 := zh v5
  have V7 := zh v7
  have V8 := zh v8
  have VX := zh vx
  clear v3 v4 v5 v7 v8 vx hlo
  rw [HK.out] at HCC
  clear HK
  have hc3 : vkey r = vkey s ∨ vkey r < vkey s ∨ vkey s < vkey r := by omega
  rcases hc3 with h | h | h
  ·have ho : kcmp (vkey r) (vkey s) = 0 := kcmp_eq.2 h
   rw [ho] at HCC
   have HH := zh h
   clear ho
   clear h
   obtain ⟨c_V3_0, f_V3_0, c_V3_1, f_V3_1, c_V3_2, f_V3_2, c_V3_3, f_V3_3, c_V3_4, f_V3_4, c_V3_5, f_V3_5, c_V3_6, f_V3_6, c_V3_7, f_V3_7, l_V3⟩ := zfl8 V3
   obtain ⟨c_V7_0, f_V7_0, l_V7⟩ := zfl1 V7
   obtain ⟨c_VX_0, f_VX_0, c_VX_1, f_VX_1, c_VX_2, f_VX_2, c_VX_3, f_VX_3, c_VX_4, f_VX_4, c_VX_5, f_VX_5, c_VX_6, f_VX_6, c_VX_7, f_VX_7, l_VX⟩ := zfl8 VX
   gi_wp2_with fail
   refine ⟨trivial, rfl, (CallsIn.inRound lp ((callsIn_wide (n := 0)).2 (HCC.out _))).mono ?_⟩
   rintro e w1 ⟨rfl, hb⟩
   clear c_V3_0 f_V3_0 c_V3_1 f_V3_1 c_V3_2 f_V3_2 c_V3_3 f_V3_3 c_V3_4 f_V3_4 c_V3_5 f_V3_5 c_V3_6 f_V3_6 c_V3_7 f_V3_7 l_V3 c_V7_0 f_V7_0 l_V7 c_VX_0 f_VX_0 c_VX_1 f_VX_1 c_VX_2 f_VX_2 c_VX_3 f_VX_3 c_VX_4 f_VX_4 c_VX_5 f_VX_5 c_VX_6 f_VX_6 c_VX_7 f_VX_7 l_VX
   replace NN := zh (Bgo NN.out hb)
   replace KF := zh ((KF.out).trans (keeps_of_below hb))
   replace V3 := zn hb V3
   replace V4 := zn hb V4
   replace V5 := zn hb V5
   replace V7 := zn hb V7
   replace V8 := zn hb V8
   replace VX := zn hb VX
   clear hb
   obtain ⟨c_V4_0, f_V4_0, l_V4⟩ := zfl1 V4
   obtain ⟨c_V5_0, f_V5_0, l_V5⟩ := zfl1 V5
   gi_wp2_with fail
   clear c_V4_0 f_V4_0 l_V4 c_V5_0 f_V5_0 l_V5
   replace KF := zh (keep_set (keep_set (KF.out) (w.heap.size + 1) 0 (.slice none 0 0)) (w.heap.size + 1 + 1) 0 (.int .i64 14))
   generalize hW : ((w1.setCell ⟨w.heap.size + 1, 0, none⟩ (.slice none 0 0)).setCell ⟨w.heap.size + 1 + 1, 0, none⟩ (.int .i64 14)) = W2 at *
   replace V3 : Hid (W2.heap[w.heap.size]? = some (.cells #[.int .i64 r.t, .int .i64 r.c, .int .i64 r.i, .int .i64 r.j, .int .i64 r.re, .int .i64 r.im, .int .i64 r.dn, .int .i64 r.n] 44)) := zs hW (blk_set_other (blk_set_other (V3.out) (by omega) 0 (.slice none 0 0)) (by omega) 0 (.int .i64 14))
   replace V4 : Hid (W2.heap[w.heap.size + 1]? = some (.cells #[.slice none 0 0] 22)) := zs hW (blk_set_other (blk_set (V4.out) 0 (.slice none 0 0)) (by omega) 0 (.int .i64 14))
   replace V5 : Hid (W2.heap[w.heap.size + 1 + 1]? = some (.cells #[.int .i64 14] 24)) := zs hW (blk_set (blk_set_other (V5.out) (by omega) 0 (.slice none 0 0)) 0 (.int .i64 14))
   replace V7 : Hid (W2.heap[g4]? = some (.cells #[.func (.func 42) #[] #[]] 93)) := zs hW (blk_set_other (blk_set_other (V7.out) (by have := LG.out; omega) 0 (.slice none 0 0)) (by have := LG.out; omega) 0 (.int .i64 14))
   replace V8 : Hid (W2.heap[g4 + 1]? = some (.cells #[.int .i64 (l.length : Int)] 3)) := zs hW (blk_set_other (blk_set_other (V8.out) (by have := LG.out; omega) 0 (.slice none 0 0)) (by have := LG.out; omega) 0 (.int .i64 14))
   replace VX : Hid (W2.heap[Bx]? = some (.cells #[.int .i64 s.t, .int .i64 s.c, .int .i64 s.i, .int .i64 s.j, .int .i64 s.re, .int .i64 s.im, .int .i64 s.dn, .int .i64 s.n] 67)) := zs hW (blk_set_other (blk_set_other (VX.out) (by have := LX.out; omega) 0 (.slice none 0 0)) (by have := LX.out; omega) 0 (.int .i64 14))
   replace NN := zt hW (p := Below _ _) (Bset1 (Bset1 (NN.out) (by omega) 0 (.slice none 0 0)) (by omega) 0 (.int .i64 14))
   clear hW
   exact ⟨KF.out, .inl ⟨rfl, ⟨s, HM.out, HH.out.symm⟩, V4.out, V5.out, NN.out⟩⟩
  ·have ho : kcmp (vkey r) (vkey s) = -1 := by unfold kcmp; rw [if_pos h]
   rw [ho] at HCC
   have HH := zh h
   clear ho
   clear h
   obtain ⟨c_V3_0, f_V3_0, c_V3_1, f_V3_1, c_V3_2, f_V3_2, c_V3_3, f_V3_3, c_V3_4, f_V3_4, c_V3_5, f_V3_5, c_V3_6, f_V3_6, c_V3_7, f_V3_7, l_V3⟩ := zfl8 V3
   obtain ⟨c_V7_0, f_V7_0, l_V7⟩ := zfl1 V7
   obtain ⟨c_VX_0, f_VX_0, c_VX_1, f_VX_1, c_VX_2, f_VX_2, c_VX_3, f_VX_3, c_VX_4, f_VX_4, c_VX_5, f_VX_5, c_VX_6, f_VX_6, c_VX_7, f_VX_7, l_VX⟩ := zfl8 VX
   gi_wp2_with fail
   refine ⟨trivial, rfl, (CallsIn.inRound lp ((callsIn_wide (n := 0)).2 (HCC.out _))).mono ?_⟩
   rintro e w3 ⟨rfl, hb⟩
   clear c_V3_0 f_V3_0 c_V3_1 f_V3_1 c_V3_2 f_V3_2 c_V3_3 f_V3_3 c_V3_4 f_V3_4 c_V3_5 f_V3_5 c_V3_6 f_V3_6 c_V3_7 f_V3_7 l_V3 c_V7_0 f_V7_0 l_V7 c_VX_0 f_VX_0 c_VX_1 f_VX_1 c_VX_2 f_VX_2 c_VX_3 f_VX_3 c_VX_4 f_VX_4 c_VX_5 f_VX_5 c_VX_6 f_VX_6 c_VX_7 f_VX_7 l_VX
   replace NN := zh (Bgo NN.out hb)
   replace KF := zh ((KF.out).trans (keeps_of_below hb))
   replace V3 := zn hb V3
   replace V4 := zn hb V4
   replace V5 := zn hb V5
   replace V7 := zn hb V7
   replace V8 := zn hb V8
   replace VX := zn hb VX
   clear hb
   obtain ⟨c_V8_0, f_V8_0, l_V8⟩ := zfl1 V8
   gi_wp2_with fail
   clear c_V8_0 f_V8_0 l_V8
   replace KF := zh (keep_set (KF.out) (g4 + 1) 0 (.int .i64 (k : Int)))
   generalize hW : (w3.setCell ⟨g4 + 1, 0, none⟩ (.int .i64 (k : Int))) = W4 at *
   replace V3 : Hid (W4.heap[w.heap.size]? = some (.cells #[.int .i64 r.t, .int .i64 r.c, .int .i64 r.i, .int .i64 r.j, .int .i64 r.re, .int .i64 r.im, .int .i64 r.dn, .int .i64 r.n] 44)) := zs hW (blk_set_other (V3.out) (by have := LG.out; omega) 0 (.int .i64 (k : Int)))
   replace V4 : Hid (W4.heap[w.heap.size + 1]? = some (.cells #[.slice none 0 0] 22)) := zs hW (blk_set_other (V4.out) (by have := LG.out; omega) 0 (.int .i64 (k : Int)))
   replace V5 : Hid (W4.heap[w.heap.size + 1 + 1]? = some (.cells #[.int .i64 0] 24)) := zs hW (blk_set_other (V5.out) (by have := LG.out; omega) 0 (.int .i64 (k : Int)))
   replace V7 : Hid (W4.heap[g4]? = some (.cells #[.func (.func 42) #[] #[]] 93)) := zs hW (blk_set_other (V7.out) (by have := LG.out; omega) 0 (.int .i64 (k : Int)))
   replace V8 : Hid (W4.heap[g4 + 1]? = some (.cells #[.int .i64 (k : Int)] 3)) := zs hW (blk_set (V8.out) 0 (.int .i64 (k : Int)))
   replace VX : Hid (W4.heap[Bx]? = some (.cells #[.int .i64 s.t, .int .i64 s.c, .int .i64 s.i, .int .i64 s.j, .int .i64 s.re, .int .i64 s.im, .int .i64 s.dn, .int .i64 s.n] 67)) := zs hW (blk_set_other (VX.out) (by have := LX.out; omega) 0 (.int .i64 (k : Int)))
   replace NN := zt hW (p := Below _ _) (Bset1 (NN.out) (by have := LG.out; omega) 0 (.int .i64 (k : Int)))
   clear hW
   refine ⟨KF.out, .inr ⟨rfl, ⟨LO.out, ?_⟩, V3.out, V4.out, V5.out, V8.out, NN.out⟩⟩
   rw [hs]; exact HH.out
  ·have ho : kcmp (vkey r) (vkey s) = 1 := by unfold kcmp; rw [if_neg (by omega), if_neg (by omega)]
   rw [ho] at HCC
   have HH := zh h
   clear ho
   clear h
   obtain ⟨c_V3_0, f_V3_0, c_V3_1, f_V3_1, c_V3_2, f_V3_2, c_V3_3, f_V3_3, c_V3_4, f_V3_4, c_V3_5, f_V3_5, c_V3_6, f_V3_6, c_V3_7, f_V3_7, l_V3⟩ := zfl8 V3
   obtain ⟨c_V7_0, f_V7_0, l_V7⟩ := zfl1 V7
   obtain ⟨c_VX_0, f_VX_0, c_VX_1, f_VX_1, c_VX_2, f_VX_2, c_VX_3, f_VX_3, c_VX_4, f_VX_4, c_VX_5, f_VX_5, c_VX_6, f_VX_6, c_VX_7, f_VX_7, l_VX⟩ := zfl8 VX
   gi_wp2_with fail
   refine ⟨trivial, rfl, (CallsIn.inRound lp ((callsIn_wide (n := 0)).2 (HCC.out _))).mono ?_⟩
   rintro e w5 ⟨rfl, hb⟩
   clear c_V3_0 f_V3_0 c_V3_1 f_V3_1 c_V3_2 f_V3_2 c_V3_3 f_V3_3 c_V3_4 f_V3_4 c_V3_5 f_V3_5 c_V3_6 f_V3_6 c_V3_7 f_V3_7 l_V3 c_V7_0 f_V7_0 l_V7 c_VX_0 f_VX_0 c_VX_1 f_VX_1 c_VX_2 f_VX_2 c_VX_3 f_VX_3 c_VX_4 f_VX_4 c_VX_5 f_VX_5 c_VX_6 f_VX_6 c_VX_7 f_VX_7 l_VX
   replace NN := zh (Bgo NN.out hb)
   replace KF := zh ((KF.out).trans (keeps_of_below hb))
   replace V3 := zn hb V3
   replace V4 := zn hb V4
   replace V5 := zn hb V5
   replace V7 := zn hb V7
   replace V8 := zn hb V8
   replace VX := zn hb VX
   clear hb
   gi_wp2_with fail
   refine ⟨KF.out, below_mid nn NN.out KF.out.size, V3.out, V4.out, V5.out, V7.out, V8.out, NN.out, by have := KF.out.size; omega, fun j hj => ?_⟩
   by_cases e : j = k
   ·subst e; rw [hs]; exact HH.out
   ·exact LO.out j (by omega)
 case done =>
  rintro D W hD ⟨v3, v4, v5, v7, v8, nn, sz, hlo⟩ hK
  have hDs := SZ.out
  have hDg := LG.out
  have LO := zh hlo
  have NE : Hid (∀ x ∈ l, vkey x ≠ vkey r) := zh (fun x hx => by
   obtain ⟨j, hj, rfl⟩ := List.mem_iff_getElem.1 hx
   have := hlo j hj
   rw [rowAt_lt hj] at this
   omega)
  have HT := zh (put_split HG.out (Nat.le_refl _) hlo (fun h => absurd h (Nat.lt_irrefl _)))
  have NN := zh nn
  have V3 := zh v3
  have V4 := zh v4
  have V5 := zh v5
  have V8 := zh v8
  have HK := zh hK
  clear v3 v4 v5 v7 v8 hK hlo
  by_cases h2 : l.length = 200
  ·have H2 := zh h2
   have q2 : ((l.length : Int) == 200) = true := by rw [h2]; rfl
   clear h2
   obtain ⟨c_V4_0, f_V4_0, l_V4⟩ := zfl1 V4
   obtain ⟨c_V5_0, f_V5_0, l_V5⟩ := zfl1 V5
   gi_wp2_with fail
   clear c_V4_0 f_V4_0 l_V4 c_V5_0 f_V5_0 l_V5
   replace HK := zh (blk_set_other (b' := w.heap.size + 1 + 1) (blk_set_other (b' := w.heap.size + 1) (HK.out) (by omega) 0 (.slice none 0 0)) (by omega) 0 (.int .i64 4))
   generalize hW : ((W.setCell ⟨w.heap.size + 1, 0, none⟩ (.slice none 0 0)).setCell ⟨w.heap.size + 1 + 1, 0, none⟩ (.int .i64 4)) = W1 at *
   replace V3 : Hid (W1.heap[w.heap.size]? = some (.cells #[.int .i64 r.t, .int .i64 r.c, .int .i64 r.i, .int .i64 r.j, .int .i64 r.re, .int .i64 r.im, .int .i64 r.dn, .int .i64 r.n] 44)) := zs hW (blk_set_other (blk_set_other (V3.out) (by omega) 0 (.slice none 0 0)) (by omega) 0 (.int .i64 4))
   replace V4 : Hid (W1.heap[w.heap.size + 1]? = some (.cells #[.slice none 0 0] 22)) := zs hW (blk_set_other (blk_set (V4.out) 0 (.slice none 0 0)) (by omega) 0 (.int .i64 4))
   replace V5 : Hid (W1.heap[w.heap.size + 1 + 1]? = some (.cells #[.int .i64 4] 24)) := zs hW (blk_set (blk_set_other (V5.out) (by omega) 0 (.slice none 0 0)) 0 (.int .i64 4))
   replace V8 : Hid (W1.heap[g4 + 1]? = some (.cells #[.int .i64 (l.length : Int)] 3)) := zs hW (blk_set_other (blk_set_other (V8.out) (by have := LG.out; omega) 0 (.slice none 0 0)) (by have := LG.out; omega) 0 (.int .i64 4))
   replace NN := zt hW (p := Below _ _) (Bset1 (Bset1 (NN.out) (by omega) 0 (.slice none 0 0)) (by omega) 0 (.int .i64 4))
   clear hW
   refine ⟨by simp, .inl ⟨_, _, rfl, run_takeDeferred HK.out, ?_⟩⟩
   have e0 := blk_cell (put_blk (D := D) (o' := .deferred none) V4.out (by omega)) 0 (.slice none 0 0) rfl
   have e1 := blk_cell (put_blk (D := D) (o' := .deferred none) V5.out (by omega)) 0 (.int .i64 4) rfl
   have h1 : putE l r = 4 := put_full HEE.out HR.out (NE.out) H2.out
   have h2' : putL l r = [] := by unfold putL; rw [h1]; exact if_neg (by omega)
   exact ⟨.tuple #[.slice none 0 0, .int .i64 4], by simp [results, Tryz.results21, go_sem, e0, e1], ⟨_, by rw [← HPE.out, h1], by rw [← HPL.out, h2']; exact ownsRow_putObj (OR.nil _ _) _ HK.out rfl, put_below NN.out (by omega) (Nat.le_refl _) HK.out⟩⟩
  ·have H2 := zh h2
   have q2 : ((l.length : Int) == 200) = false := by rw [beq_eq_false_iff_ne]; omega
   obtain ⟨wm, hmk, om, bm⟩ := make_vis (l.length + 1) (by omega) W ((l.length : Int) + 1) (by omega)
   have OM := zh om
   have B0 : Hid (Below W.heap.size W wm) := zh bm
   clear om bm h2
   have HM1 : (l.take l.length).length = l.length := by rw [List.length_take]; omega
   have HR1 : Hid (∀ X : World, Below W.heap.size W X → RT X A (l.take l.length)) := zh (fun X hX => RT.take (RT.nextB (HL.out.next NN.out) hX (fun b off h => Nat.lt_of_lt_of_le (HA.out b off h) NN.out.size)) (by omega))
   have LV : Hid (w.heap.size < W.heap.size ∧ w.heap.size + 1 < W.heap.size ∧ w.heap.size + 1 + 1 < W.heap.size ∧ g4 + 1 < W.heap.size) := zh ⟨blk_lt V3.out, blk_lt V4.out, blk_lt V5.out, blk_lt V8.out⟩
   have c8m := blk_cell (blk_B B0.out V8.out LV.out.2.2.2) 0 (.int .i64 (l.length : Int)) rfl
   have l8m := Nat.lt_of_lt_of_le LV.out.2.2.2 B0.out.size
   have HR3 : Hid (∀ (X : World) (Y : Option Addr), RT X Y (l.drop l.length)) := zh (fun X Y => by rw [List.drop_length]; exact RT.empty _ _)
   rcases A with _ | a
   ·by_cases hcc : c = l.length
    ·have hcq : (c = l.length) = True := by simp [hcc]
     gi_wp2_with (first | (gi_at_builtin; refine wpListIn_app rfl _ _ rfl W.heap.size _ [] rfl _ l.length _ (l.take l.length) rfl OM.out HM1 (HR1.out _ B0.out) ?_ B0.out.size ?_; (simp; omega); intro v1 w1 o1 q1 _; obtain ⟨A1, c1, hv1, -⟩ := OR.form o1; rw [show (([] : List Vr) ++ l.take l.length).length = l.length by simp <;> omega] at hv1; subst hv1; have B1 := zh (B0.out.trans q1); have O1 := zh o1; have V31 := zh (blk_B B1.out V3.out LV.out.1); have d0 := blk_cell V31.out 0 (.int .i64 r.t) rfl; have d1 := blk_cell V31.out 1 (.int .i64 r.c) rfl; have d2 := blk_cell V31.out 2 (.int .i64 r.i) rfl; have d3 := blk_cell V31.out 3 (.int .i64 r.j) rfl; have d4 := blk_cell V31.out 4 (.int .i64 r.re) rfl; have d5 := blk_cell V31.out 5 (.int .i64 r.im) rfl; have d6 := blk_cell V31.out 6 (.int .i64 r.dn) rfl; have d7 := blk_cell V31.out 7 (.int .i64 r.n) rfl; have l3 := Nat.lt_of_lt_of_le LV.out.1 B1.out.size; clear o1 q1 c8m l8m) | (gi_at_builtin; refine wpListIn_app rfl _ _ rfl W.heap.size _ (([] : List Vr) ++ l.take l.length) rfl (some ⟨w1.heap.size, 0, none⟩) 1 1 [r] rfl (O1.out.alloc _) rfl (RT.one (blk_new w1 _)) ?_ ?_ ?_; (simp [HM1]; omega); (rw [World.size_alloc]; have := B1.out.size; omega); intro v2 w2 o2 q2 _; obtain ⟨A2, c2, hv2, -⟩ := OR.form o2; rw [show (([] : List Vr) ++ l.take l.length ++ [r]).length = l.length + 1 by simp <;> omega] at hv2; subst hv2; have B2 := zh ((B1.out.alloc B1.out.size _).trans q2); have O2 := zh o2; have c8n := blk_cell (blk_B B2.out V8.out LV.out.2.2.2) 0 (.int .i64 (l.length : Int)) rfl; have l8n := Nat.lt_of_lt_of_le LV.out.2.2.2 B2.out.size; clear o2 q2) | (gi_at_builtin; refine wpListIn_app rfl _ _ rfl W.heap.size _ (([] : List Vr) ++ l.take l.length ++ [r]) rfl _ _ _ (l.drop l.length) rfl O2.out ?_ ?_ ?_ B2.out.size ?_; (simp); (exact HR3.out _ _); (simp; omega); intro v3 w3 o3 q3 _; obtain ⟨A3, c3, hv3, -⟩ := OR.form o3; rw [show (([] : List Vr) ++ l.take l.length ++ [r] ++ l.drop l.length).length = l.length + 1 by simp <;> omega] at hv3; subst hv3; have B3 := zh (B2.out.trans q3); have O3 := zh o3; have c4 := blk_cell (blk_B B3.out V4.out LV.out.2.1) 0 (.slice none 0 0) rfl; have f4 := blk_frozen (blk_B B3.out V4.out LV.out.2.1) 0; have l4 := Nat.lt_of_lt_of_le LV.out.2.1 B3.out.size; have c5 := blk_cell (blk_B B3.out V5.out LV.out.2.2.1) 0 (.int .i64 0) rfl; have f5 := blk_frozen (blk_B B3.out V5.out LV.out.2.2.1) 0; have l5 := Nat.lt_of_lt_of_le LV.out.2.2.1 B3.out.size; clear o3 q3))
     clear c4 f4 l4 c5 f5 l5 c8n l8n
     have LD : Hid (D < W.heap.size) := zh (blk_lt HK.out)
     replace V4 := zh (blk_B B3.out V4.out LV.out.2.1)
     replace V5 := zh (blk_B B3.out V5.out LV.out.2.2.1)
     replace HK := zh (blk_B B3.out HK.out LD.out)
     replace NN := zh (NN.out.trans (B3.out.mono NN.out.size))
     have lv := LV.out
     replace HK := zh (blk_set_other (b' := w.heap.size + 1 + 1) (blk_set_other (b' := w.heap.size + 1) (HK.out) (by omega) 0 (.slice A3 (l.length + 1) c3)) (by omega) 0 (.int .i64 0))
     replace O3 := zh (OR.set_other (OR.set_other (O3.out) (show w.heap.size + 1 < W.heap.size by omega) 0 (.slice A3 (l.length + 1) c3)) (show w.heap.size + 1 + 1 < W.heap.size by omega) 0 (.int .i64 0))
     generalize hW : ((w3.setCell ⟨w.heap.size + 1, 0, none⟩ (.slice A3 (l.length + 1) c3)).setCell ⟨w.heap.size + 1 + 1, 0, none⟩ (.int .i64 0)) = W2 at *
     replace V4 : Hid (W2.heap[w.heap.size + 1]? = some (.cells #[.slice A3 (l.length + 1) c3] 22)) := zs hW (blk_set_other (blk_set (V4.out) 0 (.slice A3 (l.length + 1) c3)) (by omega) 0 (.int .i64 0))
     replace V5 : Hid (W2.heap[w.heap.size + 1 + 1]? = some (.cells #[.int .i64 0] 24)) := zs hW (blk_set (blk_set_other (V5.out) (by omega) 0 (.slice A3 (l.length + 1) c3)) 0 (.int .i64 0))
     replace NN := zt hW (p := Below _ _) (Bset1 (Bset1 (NN.out) (by omega) 0 (.slice A3 (l.length + 1) c3)) (by omega) 0 (.int .i64 0))
     clear hW
     refine ⟨by simp, .inl ⟨_, _, rfl, run_takeDeferred HK.out, ?_⟩⟩
     have e0 := blk_cell (put_blk (D := D) (o' := .deferred none) V4.out (by omega)) 0 (.slice A3 (l.length + 1) c3) rfl
     have e1 := blk_cell (put_blk (D := D) (o' := .deferred none) V5.out (by omega)) 0 (.int .i64 0) rfl
     have h1 : putE l r = 0 := put_none HEE.out HR.out NE.out H2.out
     have h3 : putL l r = ([] : List Vr) ++ l.take l.length ++ [r] ++ l.drop l.length := by unfold putL; rw [if_pos h1, HT.out.1, HT.out.2]; simp
     exact ⟨.tuple #[.slice A3 (l.length + 1) c3, .int .i64 0], by simp [results, Tryz.results21, go_sem, e0, e1], ⟨_, by rw [← HPE.out, h1], by rw [← HPL.out, h3]; exact ownsRow_putObj (OR.mono O3.out (by omega)) _ HK.out rfl, put_below NN.out (by omega) (Nat.le_refl _) HK.out⟩⟩
    ·have hcq : (c = l.length) = False := by simp [hcc]
     gi_wp2_with (first | (gi_at_builtin; refine wpListIn_app rfl _ _ rfl W.heap.size _ [] rfl _ l.length _ (l.take l.length) rfl OM.out HM1 (HR1.out _ B0.out) ?_ B0.out.size ?_; (simp; omega); intro v1 w1 o1 q1 _; obtain ⟨A1, c1, hv1, -⟩ := OR.form o1; rw [show (([] : List Vr) ++ l.take l.length).length = l.length by simp <;> omega] at hv1; subst hv1; have B1 := zh (B0.out.trans q1); have O1 := zh o1; have V31 := zh (blk_B B1.out V3.out LV.out.1); have d0 := blk_cell V31.out 0 (.int .i64 r.t) rfl; have d1 := blk_cell V31.out 1 (.int .i64 r.c) rfl; have d2 := blk_cell V31.out 2 (.int .i64 r.i) rfl; have d3 := blk_cell V31.out 3 (.int .i64 r.j) rfl; have d4 := blk_cell V31.out 4 (.int .i64 r.re) rfl; have d5 := blk_cell V31.out 5 (.int .i64 r.im) rfl; have d6 := blk_cell V31.out 6 (.int .i64 r.dn) rfl; have d7 := blk_cell V31.out 7 (.int .i64 r.n) rfl; have l3 := Nat.lt_of_lt_of_le LV.out.1 B1.out.size; clear o1 q1 c8m l8m) | (gi_at_builtin; refine wpListIn_app rfl _ _ rfl W.heap.size _ (([] : List Vr) ++ l.take l.length) rfl (some ⟨w1.heap.size, 0, none⟩) 1 1 [r] rfl (O1.out.alloc _) rfl (RT.one (blk_new w1 _)) ?_ ?_ ?_; (simp [HM1]; omega); (rw [World.size_alloc]; have := B1.out.size; omega); intro v2 w2 o2 q2 _; obtain ⟨A2, c2, hv2, -⟩ := OR.form o2; rw [show (([] : List Vr) ++ l.take l.length ++ [r]).length = l.length + 1 by simp <;> omega] at hv2; subst hv2; have B2 := zh ((B1.out.alloc B1.out.size _).trans q2); have O2 := zh o2; have c8n := blk_cell (blk_B B2.out V8.out LV.out.2.2.2) 0 (.int .i64 (l.length : Int)) rfl; have l8n := Nat.lt_of_lt_of_le LV.out.2.2.2 B2.out.size; clear o2 q2) | (gi_at_builtin; refine wpListIn_app rfl _ _ rfl W.heap.size _ (([] : List Vr) ++ l.take l.length ++ [r]) rfl _ _ _ (l.drop l.length) rfl O2.out ?_ ?_ ?_ B2.out.size ?_; (simp); (exact HR3.out _ _); (simp; omega); intro v3 w3 o3 q3 _; obtain ⟨A3, c3, hv3, -⟩ := OR.form o3; rw [show (([] : List Vr) ++ l.take l.length ++ [r] ++ l.drop l.length).length = l.length + 1 by simp <;> omega] at hv3; subst hv3; have B3 := zh (B2.out.trans q3); have O3 := zh o3; have c4 := blk_cell (blk_B B3.out V4.out LV.out.2.1) 0 (.slice none 0 0) rfl; have f4 := blk_frozen (blk_B B3.out V4.out LV.out.2.1) 0; have l4 := Nat.lt_of_lt_of_le LV.out.2.1 B3.out.size; have c5 := blk_cell (blk_B B3.out V5.out LV.out.2.2.1) 0 (.int .i64 0) rfl; have f5 := blk_frozen (blk_B B3.out V5.out LV.out.2.2.1) 0; have l5 := Nat.lt_of_lt_of_le LV.out.2.2.1 B3.out.size; clear o3 q3))
     clear c4 f4 l4 c5 f5 l5 c8n l8n
     have LD : Hid (D < W.heap.size) := zh (blk_lt HK.out)
     replace V4 := zh (blk_B B3.out V4.out LV.out.2.1)
     replace V5 := zh (blk_B B3.out V5.out LV.out.2.2.1)
     replace HK := zh (blk_B B3.out HK.out LD.out)
     replace NN := zh (NN.out.trans (B3.out.mono NN.out.size))
     have lv := LV.out
     replace HK := zh (blk_set_other (b' := w.heap.size + 1 + 1) (blk_set_other (b' := w.heap.size + 1) (HK.out) (by omega) 0 (.slice A3 (l.length + 1) c3)) (by omega) 0 (.int .i64 0))
     replace O3 := zh (OR.set_other (OR.set_other (O3.out) (show w.heap.size + 1 < W.heap.size by omega) 0 (.slice A3 (l.length + 1) c3)) (show w.heap.size + 1 + 1 < W.heap.size by omega) 0 (.int .i64 0))
     generalize hW : ((w3.setCell ⟨w.heap.size + 1, 0, none⟩ (.slice A3 (l.length + 1) c3)).setCell ⟨w.heap.size + 1 + 1, 0, none⟩ (.int .i64 0)) = W3 at *
     replace V4 : Hid (W3.heap[w.heap.size + 1]? = some (.cells #[.slice A3 (l.length + 1) c3] 22)) := zs hW (blk_set_other (blk_set (V4.out) 0 (.slice A3 (l.length + 1) c3)) (by omega) 0 (.int .i64 0))
     replace V5 : Hid (W3.heap[w.heap.size + 1 + 1]? = some (.cells #[.int .i64 0] 24)) := zs hW (blk_set (blk_set_other (V5.out) (by omega) 0 (.slice A3 (l.length + 1) c3)) 0 (.int .i64 0))
     replace NN := zt hW (p := Below _ _) (Bset1 (Bset1 (NN.out) (by omega) 0 (.slice A3 (l.length + 1) c3)) (by omega) 0 (.int .i64 0))
     clear hW
     refine ⟨by simp, .inl ⟨_, _, rfl, run_takeDeferred HK.out, ?_⟩⟩
     have e0 := blk_cell (put_blk (D := D) (o' := .deferred none) V4.out (by omega)) 0 (.slice A3 (l.length + 1) c3) rfl
     have e1 := blk_cell (put_blk (D := D) (o' := .deferred none) V5.out (by omega)) 0 (.int .i64 0) rfl
     have h1 : putE l r = 0 := put_none HEE.out HR.out NE.out H2.out
     have h3 : putL l r = ([] : List Vr) ++ l.take l.length ++ [r] ++ l.drop l.length := by unfold putL; rw [if_pos h1, HT.out.1, HT.out.2]; simp
     exact ⟨.tuple #[.slice A3 (l.length + 1) c3, .int .i64 0], by simp [results, Tryz.results21, go_sem, e0, e1], ⟨_, by rw [← HPE.out, h1], by rw [← HPL.out, h3]; exact ownsRow_putObj (OR.mono O3.out (by omega)) _ HK.out rfl, put_below NN.out (by omega) (Nat.le_refl _) HK.out⟩⟩
   ·by_cases hcc : c = l.length
    ·have hcq : (c = l.length) = True := by simp [hcc]
     gi_wp2_with (first | (gi_at_builtin; refine wpListIn_app rfl _ _ rfl W.heap.size _ [] rfl _ l.length _ (l.take l.length) rfl OM.out HM1 (HR1.out _ B0.out) ?_ B0.out.size ?_; (simp; omega); intro v1 w1 o1 q1 _; obtain ⟨A1, c1, hv1, -⟩ := OR.form o1; rw [show (([] : List Vr) ++ l.take l.length).length = l.length by simp <;> omega] at hv1; subst hv1; have B1 := zh (B0.out.trans q1); have O1 := zh o1; have V31 := zh (blk_B B1.out V3.out LV.out.1); have d0 := blk_cell V31.out 0 (.int .i64 r.t) rfl; have d1 := blk_cell V31.out 1 (.int .i64 r.c) rfl; have d2 := blk_cell V31.out 2 (.int .i64 r.i) rfl; have d3 := blk_cell V31.out 3 (.int .i64 r.j) rfl; have d4 := blk_cell V31.out 4 (.int .i64 r.re) rfl; have d5 := blk_cell V31.out 5 (.int .i64 r.im) rfl; have d6 := blk_cell V31.out 6 (.int .i64 r.dn) rfl; have d7 := blk_cell V31.out 7 (.int .i64 r.n) rfl; have l3 := Nat.lt_of_lt_of_le LV.out.1 B1.out.size; clear o1 q1 c8m l8m) | (gi_at_builtin; refine wpListIn_app rfl _ _ rfl W.heap.size _ (([] : List Vr) ++ l.take l.length) rfl (some ⟨w1.heap.size, 0, none⟩) 1 1 [r] rfl (O1.out.alloc _) rfl (RT.one (blk_new w1 _)) ?_ ?_ ?_; (simp [HM1]; omega); (rw [World.size_alloc]; have := B1.out.size; omega); intro v2 w2 o2 q2 _; obtain ⟨A2, c2, hv2, -⟩ := OR.form o2; rw [show (([] : List Vr) ++ l.take l.length ++ [r]).length = l.length + 1 by simp <;> omega] at hv2; subst hv2; have B2 := zh ((B1.out.alloc B1.out.size _).trans q2); have O2 := zh o2; have c8n := blk_cell (blk_B B2.out V8.out LV.out.2.2.2) 0 (.int .i64 (l.length : Int)) rfl; have l8n := Nat.lt_of_lt_of_le LV.out.2.2.2 B2.out.size; clear o2 q2) | (gi_at_builtin; refine wpListIn_app rfl _ _ rfl W.heap.size _ (([] : List Vr) ++ l.take l.length ++ [r]) rfl _ _ _ (l.drop l.length) rfl O2.out ?_ ?_ ?_ B2.out.size ?_; (simp); (exact HR3.out _ _); (simp; omega); intro v3 w3 o3 q3 _; obtain ⟨A3, c3, hv3, -⟩ := OR.form o3; rw [show (([] : List Vr) ++ l.take l.length ++ [r] ++ l.drop l.length).length = l.length + 1 by simp <;> omega] at hv3; subst hv3; have B3 := zh (B2.out.trans q3); have O3 := zh o3; have c4 := blk_cell (blk_B B3.out V4.out LV.out.2.1) 0 (.slice none 0 0) rfl; have f4 := blk_frozen (blk_B B3.out V4.out LV.out.2.1) 0; have l4 := Nat.lt_of_lt_of_le LV.out.2.1 B3.out.size; have c5 := blk_cell (blk_B B3.out V5.out LV.out.2.2.1) 0 (.int .i64 0) rfl; have f5 := blk_frozen (blk_B B3.out V5.out LV.out.2.2.1) 0; have l5 := Nat.lt_of_lt_of_le LV.out.2.2.1 B3.out.size; clear o3 q3))
     clear c4 f4 l4 c5 f5 l5 c8n l8n
     have LD : Hid (D < W.heap.size) := zh (blk_lt HK.out)
     replace V4 := zh (blk_B B3.out V4.out LV.out.2.1)
     replace V5 := zh (blk_B B3.out V5.out LV.out.2.2.1)
     replace HK := zh (blk_B B3.out HK.out LD.out)
     replace NN := zh (NN.out.trans (B3.out.mono NN.out.size))
     have lv := LV.out
     replace HK := zh (blk_set_other (b' := w.heap.size + 1 + 1) (blk_set_other (b' := w.heap.size + 1) (HK.out) (by omega) 0 (.slice A3 (l.length + 1) c3)) (by omega) 0 (.int .i64 0))
     replace O3 := zh (OR.set_other (OR.set_other (O3.out) (show w.heap.size + 1 < W.heap.size by omega) 0 (.slice A3 (l.length + 1) c3)) (show w.heap.size + 1 + 1 < W.heap.size by omega) 0 (.int .i64 0))
     generalize hW : ((w3.setCell ⟨w.heap.size + 1, 0, none⟩ (.slice A3 (l.length + 1) c3)).setCell ⟨w.heap.size + 1 + 1, 0, none⟩ (.int .i64 0)) = W4 at *
     replace V4 : Hid (W4.heap[w.heap.size + 1]? = some (.cells #[.slice A3 (l.length + 1) c3] 22)) := zs hW (blk_set_other (blk_set (V4.out) 0 (.slice A3 (l.length + 1) c3)) (by omega) 0 (.int .i64 0))
     replace V5 : Hid (W4.heap[w.heap.size + 1 + 1]? = some (.cells #[.int .i64 0] 24)) := zs hW (blk_set (blk_set_other (V5.out) (by omega) 0 (.slice A3 (l.length + 1) c3)) 0 (.int .i64 0))
     replace NN := zt hW (p := Below _ _) (Bset1 (Bset1 (NN.out) (by omega) 0 (.slice A3 (l.length + 1) c3)) (by omega) 0 (.int .i64 0))
     clear hW
     refine ⟨by simp, .inl ⟨_, _, rfl, run_takeDeferred HK.out, ?_⟩⟩
     have e0 := blk_cell (put_blk (D := D) (o' := .deferred none) V4.out (by omega)) 0 (.slice A3 (l.length + 1) c3) rfl
     have e1 := blk_cell (put_blk (D := D) (o' := .deferred none) V5.out (by omega)) 0 (.int .i64 0) rfl
     have h1 : putE l r = 0 := put_none HEE.out HR.out NE.out H2.out
     have h3 : putL l r = ([] : List Vr) ++ l.take l.length ++ [r] ++ l.drop l.length := by unfold putL; rw [if_pos h1, HT.out.1, HT.out.2]; simp
     exact ⟨.tuple #[.slice A3 (l.length + 1) c3, .int .i64 0], by simp [results, Tryz.results21, go_sem, e0, e1], ⟨_, by rw [← HPE.out, h1], by rw [← HPL.out, h3]; exact ownsRow_putObj (OR.mono O3.out (by omega)) _ HK.out rfl, put_below NN.out (by omega) (Nat.le_refl _) HK.out⟩⟩
    ·have hcq : (c = l.length) = False := by simp [hcc]
     gi_wp2_with (first | (gi_at_builtin; refine wpListIn_app rfl _ _ rfl W.heap.size _ [] rfl _ l.length _ (l.take l.length) rfl OM.out HM1 (HR1.out _ B0.out) ?_ B0.out.size ?_; (simp; omega); intro v1 w1 o1 q1 _; obtain ⟨A1, c1, hv1, -⟩ := OR.form o1; rw [show (([] : List Vr) ++ l.take l.length).length = l.length by simp <;> omega] at hv1; subst hv1; have B1 := zh (B0.out.trans q1); have O1 := zh o1; have V31 := zh (blk_B B1.out V3.out LV.out.1); have d0 := blk_cell V31.out 0 (.int .i64 r.t) rfl; have d1 := blk_cell V31.out 1 (.int .i64 r.c) rfl; have d2 := blk_cell V31.out 2 (.int .i64 r.i) rfl; have d3 := blk_cell V31.out 3 (.int .i64 r.j) rfl; have d4 := blk_cell V31.out 4 (.int .i64 r.re) rfl; have d5 := blk_cell V31.out 5 (.int .i64 r.im) rfl; have d6 := blk_cell V31.out 6 (.int .i64 r.dn) rfl; have d7 := blk_cell V31.out 7 (.int .i64 r.n) rfl; have l3 := Nat.lt_of_lt_of_le LV.out.1 B1.out.size; clear o1 q1 c8m l8m) | (gi_at_builtin; refine wpListIn_app rfl _ _ rfl W.heap.size _ (([] : List Vr) ++ l.take l.length) rfl (some ⟨w1.heap.size, 0, none⟩) 1 1 [r] rfl (O1.out.alloc _) rfl (RT.one (blk_new w1 _)) ?_ ?_ ?_; (simp [HM1]; omega); (rw [World.size_alloc]; have := B1.out.size; omega); intro v2 w2 o2 q2 _; obtain ⟨A2, c2, hv2, -⟩ := OR.form o2; rw [show (([] : List Vr) ++ l.take l.length ++ [r]).length = l.length + 1 by simp <;> omega] at hv2; subst hv2; have B2 := zh ((B1.out.alloc B1.out.size _).trans q2); have O2 := zh o2; have c8n := blk_cell (blk_B B2.out V8.out LV.out.2.2.2) 0 (.int .i64 (l.length : Int)) rfl; have l8n := Nat.lt_of_lt_of_le LV.out.2.2.2 B2.out.size; clear o2 q2) | (gi_at_builtin; refine wpListIn_app rfl _ _ rfl W.heap.size _ (([] : List Vr) ++ l.take l.length ++ [r]) rfl _ _ _ (l.drop l.length) rfl O2.out ?_ ?_ ?_ B2.out.size ?_; (simp); (exact HR3.out _ _); (simp; omega); intro v3 w3 o3 q3 _; obtain ⟨A3, c3, hv3, -⟩ := OR.form o3; rw [show (([] : List Vr) ++ l.take l.length ++ [r] ++ l.drop l.length).length = l.length + 1 by simp <;> omega] at hv3; subst hv3; have B3 := zh (B2.out.trans q3); have O3 := zh o3; have c4 := blk_cell (blk_B B3.out V4.out LV.out.2.1) 0 (.slice none 0 0) rfl; have f4 := blk_frozen (blk_B B3.out V4.out LV.out.2.1) 0; have l4 := Nat.lt_of_lt_of_le LV.out.2.1 B3.out.size; have c5 := blk_cell (blk_B B3.out V5.out LV.out.2.2.1) 0 (.int .i64 0) rfl; have f5 := blk_frozen (blk_B B3.out V5.out LV.out.2.2.1) 0; have l5 := Nat.lt_of_lt_of_le LV.out.2.2.1 B3.out.size; clear o3 q3))
     clear c4 f4 l4 c5 f5 l5 c8n l8n
     have LD : Hid (D < W.heap.size) := zh (blk_lt HK.out)
     replace V4 := zh (blk_B B3.out V4.out LV.out.2.1)
     replace V5 := zh (blk_B B3.out V5.out LV.out.2.2.1)
     replace HK := zh (blk_B B3.out HK.out LD.out)
     replace NN := zh (NN.out.trans (B3.out.mono NN.out.size))
     have lv := LV.out
     replace HK := zh (blk_set_other (b' := w.heap.size + 1 + 1) (blk_set_other (b' := w.heap.size + 1) (HK.out) (by omega) 0 (.slice A3 (l.length + 1) c3)) (by omega) 0 (.int .i64 0))
     replace O3 := zh (OR.set_other (OR.set_other (O3.out) (show w.heap.size + 1 < W.heap.size by omega) 0 (.slice A3 (l.length + 1) c3)) (show w.heap.size + 1 + 1 < W.heap.size by omega) 0 (.int .i64 0))
     generalize hW : ((w3.setCell ⟨w.heap.size + 1, 0, none⟩ (.slice A3 (l.length + 1) c3)).setCell ⟨w.heap.size + 1 + 1, 0, none⟩ (.int .i64 0)) = W5 at *
     replace V4 : Hid (W5.heap[w.heap.size + 1]? = some (.cells #[.slice A3 (l.length + 1) c3] 22)) := zs hW (blk_set_other (blk_set (V4.out) 0 (.slice A3 (l.length + 1) c3)) (by omega) 0 (.int .i64 0))
     replace V5 : Hid (W5.heap[w.heap.size + 1 + 1]? = some (.cells #[.int .i64 0] 24)) := zs hW (blk_set (blk_set_other (V5.out) (by omega) 0 (.slice A3 (l.length + 1) c3)) 0 (.int .i64 0))
     replace NN := zt hW (p := Below _ _) (Bset1 (Bset1 (NN.out) (by omega) 0 (.slice A3 (l.length + 1) c3)) (by omega) 0 (.int .i64 0))
     clear hW
     refine ⟨by simp, .inl ⟨_, _, rfl, run_takeDeferred HK.out, ?_⟩⟩
     have e0 := blk_cell (put_blk (D := D) (o' := .deferred none) V4.out (by omega)) 0 (.slice A3 (l.length + 1) c3) rfl
     have e1 := blk_cell (put_blk (D := D) (o' := .deferred none) V5.out (by omega)) 0 (.int .i64 0) rfl
     have h1 : putE l r = 0 := put_none HEE.out HR.out NE.out H2.out
     have h3 : putL l r = ([] : List Vr) ++ l.take l.length ++ [r] ++ l.drop l.length := by unfold putL; rw [if_pos h1, HT.out.1, HT.out.2]; simp
     exact ⟨.tuple #[.slice A3 (l.length + 1) c3, .int .i64 0], by simp [results, Tryz.results21, go_sem, e0, e1], ⟨_, by rw [← HPE.out, h1], by rw [← HPL.out, h3]; exact ownsRow_putObj (OR.mono O3.out (by omega)) _ HK.out rfl, put_below NN.out (by omega) (Nat.le_refl _) HK.out⟩⟩
 case stop =>
  rintro D cd k W hD hlt (⟨rfl, hx, v4, v5, nn⟩ | ⟨rfl, ⟨hlo, hgt⟩, v3, v4, v5, v8, nn⟩) hK
  ·have NN := zh nn
   have V4 := zh v4
   have V5 := zh v5
   have hDs := SZ.out
   have hDg := LG.out
   have HK := zh hK
   have HX := zh hx
   clear v4 v5 hK hx
   gi_wp2_with fail
   refine ⟨by simp, .inl ⟨_, _, rfl, run_takeDeferred HK.out, ?_⟩⟩
   have e0 := blk_cell (put_blk (D := D) (o' := .deferred none) V4.out (by omega)) 0 (.slice none 0 0) rfl
   have e1 := blk_cell (put_blk (D := D) (o' := .deferred none) V5.out (by omega)) 0 (.int .i64 14) rfl
   have h1 : putE l r = 14 := put_twice HEE.out HR.out HX.out
   have h2' : putL l r = [] := by unfold putL; rw [h1]; exact if_neg (by omega)
   exact ⟨.tuple #[.slice none 0 0, .int .i64 14], by simp [results, Tryz.results21, go_sem, e0, e1], ⟨_, by rw [← HPE.out, h1], by rw [← HPL.out, h2']; exact ownsRow_putObj (OR.nil _ _) _ HK.out rfl, put_below NN.out (by omega) (Nat.le_refl _) HK.out⟩⟩
  ·have hDs := SZ.out
   have hDg := LG.out
   obtain ⟨b, off, eA, -, -⟩ := HL.out.2 (by omega)
   subst eA
   have NE := zh (put_ne HG.out hlt hlo hgt)
   have HT := zh (put_split HG.out (by omega) hlo (fun _ => hgt))
   have NN := zh nn
   have V3 := zh v3
   have V4 := zh v4
   have V5 := zh v5
   have V8 := zh v8
   have HK := zh hK
   clear v3 v4 v5 v8 hK hlo hgt
   by_cases h2 : l.length = 200
   ·have H2 := zh h2
    have q2 : ((l.length : Int) == 200) = true := by rw [h2]; rfl
    clear h2
    obtain ⟨c_V4_0, f_V4_0, l_V4⟩ := zfl1 V4
    obtain ⟨c_V5_0, f_V5_0, l_V5⟩ := zfl1 V5
    gi_wp2_with fail
    clear c_V4_0 f_V4_0 l_V4 c_V5_0 f_V5_0 l_V5
    replace HK := zh (blk_set_other (b' := w.heap.size + 1 + 1) (blk_set_other (b' := w.heap.size + 1) (HK.out) (by omega) 0 (.slice none 0 0)) (by omega) 0 (.int .i64 4))
    generalize hW : ((W.setCell ⟨w.heap.size + 1, 0, none⟩ (.slice none 0 0)).setCell ⟨w.heap.size + 1 + 1, 0, none⟩ (.int .i64 4)) = W1 at *
    replace V3 : Hid (W1.heap[w.heap.size]? = some (.cells #[.int .i64 r.t, .int .i64 r.c, .int .i64 r.i, .int .i64 r.j, .int .i64 r.re, .int .i64 r.im, .int .i64 r.dn, .int .i64 r.n] 44)) := zs hW (blk_set_other (blk_set_other (V3.out) (by omega) 0 (.slice none 0 0)) (by omega) 0 (.int .i64 4))
    replace V4 : Hid (W1.heap[w.heap.size + 1]? = some (.cells #[.slice none 0 0] 22)) := zs hW (blk_set_other (blk_set (V4.out) 0 (.slice none 0 0)) (by omega) 0 (.int .i64 4))
    replace V5 : Hid (W1.heap[w.heap.size + 1 + 1]? = some (.cells #[.int .i64 4] 24)) := zs hW (blk_set (blk_set_other (V5.out) (by omega) 0 (.slice none 0 0)) 0 (.int .i64 4))
    replace V8 : Hid (W1.heap[g4 + 1]? = some (.cells #[.int .i64 (k : Int)] 3)) := zs hW (blk_set_other (blk_set_other (V8.out) (by have := LG.out; omega) 0 (.slice none 0 0)) (by have := LG.out; omega) 0 (.int .i64 4))
    replace NN := zt hW (p := Below _ _) (Bset1 (Bset1 (NN.out) (by omega) 0 (.slice none 0 0)) (by omega) 0 (.int .i64 4))
    clear hW
    refine ⟨by simp, .inl ⟨_, _, rfl, run_takeDeferred HK.out, ?_⟩⟩
    have e0 := blk_cell (put_blk (D := D) (o' := .deferred none) V4.out (by omega)) 0 (.slice none 0 0) rfl
    have e1 := blk_cell (put_blk (D := D) (o' := .deferred none) V5.out (by omega)) 0 (.int .i64 4) rfl
    have h1 : putE l r = 4 := put_full HEE.out HR.out (NE.out) H2.out
    have h2' : putL l r = [] := by unfold putL; rw [h1]; exact if_neg (by omega)
    exact ⟨.tuple #[.slice none 0 0, .int .i64 4], by simp [results, Tryz.results21, go_sem, e0, e1], ⟨_, by rw [← HPE.out, h1], by rw [← HPL.out, h2']; exact ownsRow_putObj (OR.nil _ _) _ HK.out rfl, put_below NN.out (by omega) (Nat.le_refl _) HK.out⟩⟩
   ·have H2 := zh h2
    have q2 : ((l.length : Int) == 200) = false := by rw [beq_eq_false_iff_ne]; omega
    obtain ⟨wm, hmk, om, bm⟩ := make_vis (l.length + 1) (by omega) W ((l.length : Int) + 1) (by omega)
    have OM := zh om
    have B0 : Hid (Below W.heap.size W wm) := zh bm
    clear om bm h2
    have HM1 : (l.take k).length = k := by rw [List.length_take]; omega
    have HR1 : Hid (∀ X : World, Below W.heap.size W X → RT X (some ⟨b, off, none⟩) (l.take k)) := zh (fun X hX => RT.take (RT.nextB (HL.out.next NN.out) hX (fun b off h => Nat.lt_of_lt_of_le (HA.out b off h) NN.out.size)) (by omega))
    have LV : Hid (w.heap.size < W.heap.size ∧ w.heap.size + 1 < W.heap.size ∧ w.heap.size + 1 + 1 < W.heap.size ∧ g4 + 1 < W.heap.size) := zh ⟨blk_lt V3.out, blk_lt V4.out, blk_lt V5.out, blk_lt V8.out⟩
    have c8m := blk_cell (blk_B B0.out V8.out LV.out.2.2.2) 0 (.int .i64 (k : Int)) rfl
    have l8m := Nat.lt_of_lt_of_le LV.out.2.2.2 B0.out.size
    have HR3 : Hid (∀ (X : World), Below W.heap.size W X → RT X (some ⟨b, off + k * 8, none⟩) (l.drop k)) := zh (fun X hX => RT.drop (RT.nextB (HL.out.next NN.out) hX (fun b off h => Nat.lt_of_lt_of_le (HA.out b off h) NN.out.size)) (by omega))
    have hcq : (c = k) = False := by simp; omega
    have hkc : k ≤ c := by omega
    have hkl : k ≤ l.length := by omega
    gi_wp2_with (first | (gi_at_builtin; refine wpListIn_app rfl _ _ rfl W.heap.size _ [] rfl _ k _ (l.take k) rfl OM.out HM1 (HR1.out _ B0.out) ?_ B0.out.size ?_; (simp; omega); intro v1 w1 o1 q1 _; obtain ⟨A1, c1, hv1, -⟩ := OR.form o1; rw [show (([] : List Vr) ++ l.take k).length = k by simp <;> omega] at hv1; subst hv1; have B1 := zh (B0.out.trans q1); have O1 := zh o1; have V31 := zh (blk_B B1.out V3.out LV.out.1); have d0 := blk_cell V31.out 0 (.int .i64 r.t) rfl; have d1 := blk_cell V31.out 1 (.int .i64 r.c) rfl; have d2 := blk_cell V31.out 2 (.int .i64 r.i) rfl; have d3 := blk_cell V31.out 3 (.int .i64 r.j) rfl; have d4 := blk_cell V31.out 4 (.int .i64 r.re) rfl; have d5 := blk_cell V31.out 5 (.int .i64 r.im) rfl; have d6 := blk_cell V31.out 6 (.int .i64 r.dn) rfl; have d7 := blk_cell V31.out 7 (.int .i64 r.n) rfl; have l3 := Nat.lt_of_lt_of_le LV.out.1 B1.out.size; clear o1 q1 c8m l8m) | (gi_at_builtin; refine wpListIn_app rfl _ _ rfl W.heap.size _ (([] : List Vr) ++ l.take k) rfl (some ⟨w1.heap.size, 0, none⟩) 1 1 [r] rfl (O1.out.alloc _) rfl (RT.one (blk_new w1 _)) ?_ ?_ ?_; (simp [HM1]; omega); (rw [World.size_alloc]; have := B1.out.size; omega); intro v2 w2 o2 q2 _; obtain ⟨A2, c2, hv2, -⟩ := OR.form o2; rw [show (([] : List Vr) ++ l.take k ++ [r]).length = k + 1 by simp <;> omega] at hv2; subst hv2; have B2 := zh ((B1.out.alloc B1.out.size _).trans q2); have O2 := zh o2; have c8n := blk_cell (blk_B B2.out V8.out LV.out.2.2.2) 0 (.int .i64 (k : Int)) rfl; have l8n := Nat.lt_of_lt_of_le LV.out.2.2.2 B2.out.size; clear o2 q2) | (gi_at_builtin; refine wpListIn_app rfl _ _ rfl W.heap.size _ (([] : List Vr) ++ l.take k ++ [r]) rfl _ _ _ (l.drop k) rfl O2.out ?_ ?_ ?_ B2.out.size ?_; (simp); (exact HR3.out _ B2.out); (simp; omega); intro v3 w3 o3 q3 _; obtain ⟨A3, c3, hv3, -⟩ := OR.form o3; rw [show (([] : List Vr) ++ l.take k ++ [r] ++ l.drop k).length = l.length + 1 by simp <;> omega] at hv3; subst hv3; have B3 := zh (B2.out.trans q3); have O3 := zh o3; have c4 := blk_cell (blk_B B3.out V4.out LV.out.2.1) 0 (.slice none 0 0) rfl; have f4 := blk_frozen (blk_B B3.out V4.out LV.out.2.1) 0; have l4 := Nat.lt_of_lt_of_le LV.out.2.1 B3.out.size; have c5 := blk_cell (blk_B B3.out V5.out LV.out.2.2.1) 0 (.int .i64 0) rfl; have f5 := blk_frozen (blk_B B3.out V5.out LV.out.2.2.1) 0; have l5 := Nat.lt_of_lt_of_le LV.out.2.2.1 B3.out.size; clear o3 q3))
    clear c4 f4 l4 c5 f5 l5 c8n l8n
    have LD : Hid (D < W.heap.size) := zh (blk_lt HK.out)
    replace V4 := zh (blk_B B3.out V4.out LV.out.2.1)
    replace V5 := zh (blk_B B3.out V5.out LV.out.2.2.1)
    replace HK := zh (blk_B B3.out HK.out LD.out)
    replace NN := zh (NN.out.trans (B3.out.mono NN.out.size))
    have lv := LV.out
    replace HK := zh (blk_set_other (b' := w.heap.size + 1 + 1) (blk_set_other (b' := w.heap.size + 1) (HK.out) (by omega) 0 (.slice A3 (l.length + 1) c3)) (by omega) 0 (.int .i64 0))
    replace O3 := zh (OR.set_other (OR.set_other (O3.out) (show w.heap.size + 1 < W.heap.size by omega) 0 (.slice A3 (l.length + 1) c3)) (show w.heap.size + 1 + 1 < W.heap.size by omega) 0 (.int .i64 0))
    generalize hW : ((w3.setCell ⟨w.heap.size + 1, 0, none⟩ (.slice A3 (l.length + 1) c3)).setCell ⟨w.heap.size + 1 + 1, 0, none⟩ (.int .i64 0)) = W2 at *
    replace V4 : Hid (W2.heap[w.heap.size + 1]? = some (.cells #[.slice A3 (l.length + 1) c3] 22)) := zs hW (blk_set_other (blk_set (V4.out) 0 (.slice A3 (l.length + 1) c3)) (by omega) 0 (.int .i64 0))
    replace V5 : Hid (W2.heap[w.heap.size + 1 + 1]? = some (.cells #[.int .i64 0] 24)) := zs hW (blk_set (blk_set_other (V5.out) (by omega) 0 (.slice A3 (l.length + 1) c3)) 0 (.int .i64 0))
    replace NN := zt hW (p := Below _ _) (Bset1 (Bset1 (NN.out) (by omega) 0 (.slice A3 (l.length + 1) c3)) (by omega) 0 (.int .i64 0))
    clear hW
    refine ⟨by simp, .inl ⟨_, _, rfl, run_takeDeferred HK.out, ?_⟩⟩
    have e0 := blk_cell (put_blk (D := D) (o' := .deferred none) V4.out (by omega)) 0 (.slice A3 (l.length + 1) c3) rfl
    have e1 := blk_cell (put_blk (D := D) (o' := .deferred none) V5.out (by omega)) 0 (.int .i64 0) rfl
    have h1 : putE l r = 0 := put_none HEE.out HR.out NE.out H2.out
    have h3 : putL l r = ([] : List Vr) ++ l.take k ++ [r] ++ l.drop k := by unfold putL; rw [if_pos h1, HT.out.1, HT.out.2]; simp
    exact ⟨.tuple #[.slice A3 (l.length + 1) c3, .int .i64 0], by simp [results, Tryz.results21, go_sem, e0, e1], ⟨_, by rw [← HPE.out, h1], by rw [← HPL.out, h3]; exact ownsRow_putObj (OR.mono O3.out (by omega)) _ HK.out rfl, put_below NN.out (by omega) (Nat.le_refl _) HK.out⟩⟩
end Go.Proofs.YtbbnkclajpaghaaGreatDoor
