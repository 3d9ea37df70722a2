/- Several texts in one. -/
import Derived.BigQuiet
import Derived.Test.YtfangplfbbgphaaGreatDoorMN09
namespace Go.Proofs.YtfangplfbbgphaaGreatDoor
open Go.ChangeShapes Go.WideShapes Go.ChangeAt Go.RowKit
set_option linter.unusedVariables false
set_option maxRecDepth 100000
set_option linter.unusedSimpArgs false
attribute [local go_sem ↓] Go.wp_at_zero Go.wp_at_succ
theorem infoV : (Tryz.prog.info? 38).map (fun i => (i.zero, i.size, i.bytes)) = some (some (.agg #[.int .i64 0, .int .i64 0, .int .i64 0, .int .i64 0, .int .i64 0, .int .i64 0]), 6, 48) := by kernel_rfl
theorem infoVs : (Tryz.prog.info? 38).map (·.size) = some 6 := by kernel_rfl
theorem und_vecs : Tryz.prog.underlying 65 = some (.slice 38) := by kernel_rfl
theorem made_vecs {n : Nat} (h : n ≤ 8) : madeCells #[.int .i64 0, .int .i64 0, .int .i64 0, .int .i64 0, .int .i64 0, .int .i64 0] (n * 6) = ((List.replicate n zV).flatMap v6).toArray := by
 have hn : n = 0 ∨ n = 1 ∨ n = 2 ∨ n = 3 ∨ n = 4 ∨ n = 5 ∨ n = 6 ∨ n = 7 ∨ n = 8 := by omega
 rcases hn with rfl | rfl | rfl | rfl | rfl | rfl | rfl | rfl | rfl
 all_goals (show madeCells _ _ = _; kernel_rfl)
theorem make_vecs {n : Nat} (h : n ≤ 8) (W : World) : (Instr.makeSlice 65 (.int .i64 (n : Int)) (.int .i64 (n : Int))).run Tryz.prog W = .ok (.slice (some ⟨W.heap.size, 0, none⟩) n n) (W.alloc (.cells ((List.replicate n zV).flatMap v6).toArray 38)) := by
 obtain ⟨i, hi, hz, hs, hb⟩ := info_parts infoV
 have h1 := run_make (P := Tryz.prog) W 65 38 i _ und_vecs hi hz .i64 .i64 (n : Int) (n : Int) (by omega) (by omega) (by rw [hb]; omega) (by omega)
 rw [hs, Int.toNat_natCast] at h1
 rw [h1]
 unfold Value.cells
 simp only
 rw [made_vecs h]
def rowsV (A B : Int) (l : List St) (k : Nat) : List V6 := (l.take k).map (plV A B) ++ List.replicate (l.length - k) zV
theorem rowsV_len {A B : Int} {l : List St} {k : Nat} (h : k ≤ l.length) : (rowsV A B l k).length = l.length := by
 unfold rowsV
 simp; omega
theorem rowsV_set {A B : Int} {l : List St} {k : Nat} {x : St} (hx : l[k]? = some x) : (rowsV A B l k).set k (plV A B x) = rowsV A B l (k + 1) := by
 have hlt := get_lt hx
 unfold rowsV
 obtain ⟨m, hm⟩ : ∃ m, l.length - k = m + 1 := ⟨l.length - k - 1, by omega⟩
 rw [hm, show l.length - (k + 1) = m by omega, List.replicate_succ, List.set_append_right _ _ (by simp; omega), List.length_map, List.length_take, Nat.min_eq_left (by omega), Nat.sub_self, List.set_cons_zero, List.take_succ_eq_append_getElem hlt, List.map_append, List.append_assoc]
 have e : l[k] = x := by rw [List.getElem?_eq_getElem hlt] at hx; exact Option.some.inj hx
 rw [e]; rfl
theorem rowsV_zero (A B : Int) (l : List St) : rowsV A B l 0 = List.replicate l.length zV := by unfold rowsV; simp
theorem rowsV_all (A B : Int) (l : List St) : rowsV A B l l.length = l.map (plV A B) := by unfold rowsV; simp
theorem pls_get {A B : Int} {l : List St} {k : Nat} {x : St} (hx : l[k]? = some x) : (pls A B l)[k]? = some (x, plV A B x) := by unfold pls; rw [List.getElem?_map, hx]; rfl
set_option maxRecDepth 100000 in
set_option maxHeartbeats 8000000 in
theorem acheck_calls {A B : Int} {a : Option Addr} {c : Nat} {l : List St} {w : World} (hl : RSt w a l) (hc : l.length ≤ c) (hc' : c ≤ 9223372036854775807) (hn : ∀ x ∈ l, x.nm.size ≤ 9223372036854775807) : Calls Tryz.prog 28 #[Gv A B, .slice a l.length c] w fun e w' => e = .returned (.int .i64 (plE A B l)) ∧ Below w.heap.size w w' := by
 have NN := Lib.hid (Below.refl w.heap.size w)
 have PC := Lib.hid (fun (W : World) (hb : Below w.heap.size w W) => place_calls (A := A) (B := B) (hl.next hb) hc hc' hn)
 clear hl hn
 generalize plE A B l = pe at *
 go_enter Tryz.func28, Tryz.ntmps28
 go_wp2_with fail
 have G : Hid ((w.alloc (.cells #[.int .i64 A, .int .i64 B] 23)).heap[w.heap.size]? = some (.cells #[.int .i64 A, .int .i64 B] 23)) := Lib.hid (blk_new w _)
 replace NN : Hid (Below w.heap.size w (w.alloc (.cells #[.int .i64 A, .int .i64 B] 23))) := Lib.hid (Bal NN.out _)
 generalize (w.alloc (.cells #[.int .i64 A, .int .i64 B] 23)) = W1 at *
 refine (PC.out _ NN.out).mono ?_
 rintro e w2 ⟨v, rfl, hb, -, -⟩
 replace NN := Lib.hid (Bgo NN.out hb)
 replace G := Lib.hid (blk_next hb G.out)
 clear hb
 go_wp2_with fail
 go_ret
 exact ⟨rfl, NN.out⟩
set_option maxRecDepth 100000 in
set_option maxHeartbeats 8000000 in
theorem aplaces_calls {A B : Int} {a : Option Addr} {c : Nat} {l : List St} {w : World} (hl : RSt w a l) (hc : l.length ≤ c) (hc' : c ≤ 9223372036854775807) (hn : ∀ x ∈ l, x.nm.size ≤ 9223372036854775807) : Calls Tryz.prog 26 #[Gv A B, .slice a l.length c] w fun e w' =>
  ∃ v, e = .returned (.tuple #[v, .int .i64 (plE A B l)]) ∧ Below w.heap.size w w' ∧ (plE A B l ≠ 0 → v = .slice none 0 0) ∧
   (plE A B l = 0 → ∃ g, v = .slice (some ⟨g, 0, none⟩) l.length l.length ∧ w.heap.size ≤ g ∧ w'.heap[g]? = some (.cells ((l.map (plV A B)).flatMap v6).toArray 38)) := by
 have NN := Lib.hid (Below.refl w.heap.size w)
 have PC := Lib.hid (fun (W : World) (hb : Below w.heap.size w W) => place_calls (A := A) (B := B) (hl.next hb) hc hc' hn)
 have L8 := Lib.hid (fun (h : plE A B l = 0) => (stsE_ok (plE_ok h).2.1).1)
 clear hl hn
 obtain ⟨pe, hpe⟩ : ∃ pe, plE A B l = pe := ⟨_, rfl⟩
 simp only [hpe] at PC L8 ⊢
 clear hpe
 go_enter Tryz.func26, Tryz.ntmps26
 go_wp2_with fail
 have G : Hid ((w.alloc (.cells #[.int .i64 A, .int .i64 B] 23)).heap[w.heap.size]? = some (.cells #[.int .i64 A, .int .i64 B] 23)) := Lib.hid (blk_new w _)
 replace NN : Hid (Below w.heap.size w (w.alloc (.cells #[.int .i64 A, .int .i64 B] 23))) := Lib.hid (Bal NN.out _)
 generalize (w.alloc (.cells #[.int .i64 A, .int .i64 B] 23)) = W1 at *
 refine (PC.out _ NN.out).mono ?_
 rintro e w2 ⟨v, rfl, hb, hv0, hv1⟩
 replace NN := Lib.hid (Bgo NN.out hb)
 replace G := Lib.hid (blk_next hb G.out)
 clear hb
 have V0 := Lib.hid hv0
 have V1 := Lib.hid hv1
 clear hv0 hv1 PC
 by_cases he : pe ≠ 0
 ·have q1 : (pe != 0) = true := by simpa using he
  have HE := Lib.hid he
  clear he
  go_wp2_with fail
  refine bodyPost_ret (v := .tuple #[.slice none 0 0, .int .i64 pe]) (by simp [results, Tryz.results26, go_sem]) rfl ⟨_, rfl, NN.out, fun _ => rfl, fun h => absurd h HE.out⟩
 have he0 : pe = 0 := by omega
 subst he0
 clear he
 obtain ⟨gR, rfl, hg, hr⟩ := V1.out rfl
 have l8 := L8.out rfl
 clear V0 V1 L8
 have RB := Lib.hid hr
 have LG := Lib.hid hg
 clear hr hg
 have MK := fun W => make_vecs l8 W
 clear G
 go_wp2_with fail
 have HB := Lib.hid (Bal (Below.refl w2.heap.size w2) (.cells ((List.replicate l.length zV).flatMap v6).toArray 38))
 have RV : Hid ((w2.alloc (.cells ((List.replicate l.length zV).flatMap v6).toArray 38)).heap[w2.heap.size]? = some (.cells ((List.replicate l.length zV).flatMap v6).toArray 38)) := Lib.hid (blk_new w2 _)
 have LR : Hid (gR < w2.heap.size ∧ w.heap.size ≤ w2.heap.size) := Lib.hid ⟨blk_lt RB.out, NN.out.size⟩
 replace NN := Lib.hid (Bgo NN.out HB.out)
 replace RB := Lib.hid (blk_next HB.out RB.out)
 clear HB MK
 generalize w2.alloc (.cells ((List.replicate l.length zV).flatMap v6).toArray 38) = W0 at *
 generalize w2.heap.size = gV at *
 rw [← rowsV_zero A B l] at RV
 go_loopw [25] (fun i wr => ∃ k : Nat, k ≤ l.length ∧ i = .int .i64 k ∧ Hid (Below w.heap.size w wr) ∧ Hid (wr.heap[gR]? = some (.cells ((pls A B l).flatMap pl11).toArray 89)) ∧ Hid (wr.heap[gV]? = some (.cells ((rowsV A B l k).flatMap v6).toArray 38))) (fun i _ => l.length - (intOf i).toNat)
 case atStart => exact ⟨0, by omega, rfl, NN, RB, RV⟩
 case round =>
  clear NN RB RV
  obtain ⟨k, hk, rfl, NN, RB, RV⟩ := hrel
  by_cases hlt : k < l.length
  ·obtain ⟨x, hx⟩ := get_some hlt
   have HX := Lib.hid hx
   have HP := Lib.hid (pls_get (A := A) (B := B) hx)
   have HK : Hid (k < (rowsV A B l k).length) := Lib.hid (by rw [rowsV_len (by omega)]; exact hlt)
   have kk : k + 1 ≤ l.length := hlt
   clear hx
   generalize hpv : plV A B x = pv at HP
   have c0 := rec_cell pl11_len RB.out HP.out 0 _ rfl
   have c1 := rec_cell pl11_len RB.out HP.out 1 _ rfl
   have c2 := rec_cell pl11_len RB.out HP.out 2 _ rfl
   have c3 := rec_cell pl11_len RB.out HP.out 3 _ rfl
   have c4 := rec_cell pl11_len RB.out HP.out 4 _ rfl
   have c5 := rec_cell pl11_len RB.out HP.out 5 _ rfl
   have c6 := rec_cell pl11_len RB.out HP.out 6 _ rfl
   have c7 := rec_cell pl11_len RB.out HP.out 7 _ rfl
   have c8 := rec_cell pl11_len RB.out HP.out 8 _ rfl
   have c9 := rec_cell pl11_len RB.out HP.out 9 _ rfl
   have c10 := rec_cell pl11_len RB.out HP.out 10 _ rfl
   simp only [Nat.add_zero] at c0
   have lR := blk_lt RB.out
   have lV := blk_lt RV.out
   have HB := Lib.hid (Bal (Below.refl wr.heap.size wr) (.cells #[.string x.nm, .int .i64 x.sn, .int .i64 x.sd, .int .i64 x.tn, .int .i64 x.td, .int .i64 pv.x1, .int .i64 pv.x2, .int .i64 pv.y1, .int .i64 pv.y2, .int .i64 pv.z1, .int .i64 pv.z2] 89))
   replace NN := Lib.hid (Bgo NN.out HB.out)
   replace RB := Lib.hid (blk_next HB.out RB.out)
   replace RV := Lib.hid (blk_next HB.out RV.out)
   clear HB
   go_wp2_with ((with_reducible refine (show wpList _ _ _ (Oper.mk none (Op.store 38 (.tmp 34) _) _ _ _ _ :: _) _ _ from ?_)); (refine wpList_store_rec rfl 38 _ _ rfl v6 6 v6_len v6_one gV k (rowsV A B l k) pv HK.out _ rfl rfl rfl 38 RV.out infoVs ?_))
   go_roundw
   case rel => exact ⟨k + 1, kk, by go_num, Lib.hid (below_setRow NN.out (show w.heap.size ≤ gV by have := LR.out; omega) _), Lib.hid ((setRow_other _ gV gR _ (by have := LR.out; omega)).trans RB.out), Lib.hid ((setRow_heap _ gV _ (((rowsV A B l k).set k pv).flatMap v6).toArray _ _ RV.out).trans (by rw [← hpv, rowsV_set HX.out]))⟩
   case measure => simp [intOf]; omega
  ·obtain rfl : k = l.length := by omega
   rw [rowsV_all] at RV
   go_wp2_with fail
   refine bodyPost_ret (v := .tuple #[.slice (some ⟨gV, 0, none⟩) l.length l.length, .int .i64 0]) (by simp [results, Tryz.results26, go_sem]) rfl ⟨_, rfl, NN.out, gV, rfl, LR.out.2, RV.out⟩
set_option maxRecDepth 100000 in
set_option maxHeartbeats 8000000 in
theorem aline_calls (i j : Int) {A B : Int} {a : Option Addr} {c : Nat} {l : List St} {w : World} (hl : RSt w a l) (hc : l.length ≤ c) (hc' : c ≤ 9223372036854775807) (hn : ∀ x ∈ l, x.nm.size ≤ 9223372036854775807) : Calls Tryz.prog 13 #[Gv A B, .slice a l.length c, .int .i64 i, .int .i64 j] w fun e w' => e = .returned (.tuple #[Vv (liV A B l i j), .int .i64 (liE A B l i j)]) ∧ Below w.heap.size w w' := by
 have NN := Lib.hid (Below.refl w.heap.size w)
 have PC := Lib.hid (fun (W : World) (hb : Below w.heap.size w W) => place_calls (A := A) (B := B) (hl.next hb) hc hc' hn)
 have LE0 : Hid (liE A B l i j = if plE A B l ≠ 0 then plE A B l else if inB i l.length && inB j l.length then 0 else 2) := Lib.hid rfl
 have LV0 : Hid (liV A B l i j = if liE A B l i j = 0 then (match l[i.toNat]?, l[j.toNat]? with | some s, some t => subV (plV A B t) (plV A B s) | _, _ => zV) else zV) := Lib.hid rfl
 have LO := Lib.hid (fun (h : plE A B l = 0) (s t : St) (hs : s ∈ l) (ht : t ∈ l) => line_ok h hs ht)
 generalize liV A B l i j = lv at *
 generalize liE A B l i j = le at *
 obtain ⟨pe, hpe⟩ : ∃ pe, plE A B l = pe := ⟨_, rfl⟩
 simp only [hpe] at PC LE0 LO
 clear hl hn hpe
 go_enter Tryz.func13, Tryz.ntmps13
 go_wp2_with fail
 have G : Hid (((w.alloc (.cells #[.int .i64 A, .int .i64 B] 23)).alloc (.cells #[.int .i64 0, .int .i64 0, .int .i64 0, .int .i64 0, .int .i64 0, .int .i64 0] 38)).heap[w.heap.size]? = some (.cells #[.int .i64 A, .int .i64 B] 23)) := Lib.hid (blk_alloc (blk_new w _) _)
 have R : Hid (((w.alloc (.cells #[.int .i64 A, .int .i64 B] 23)).alloc (.cells #[.int .i64 0, .int .i64 0, .int .i64 0, .int .i64 0, .int .i64 0, .int .i64 0] 38)).heap[w.heap.size + 1]? = some (.cells #[.int .i64 0, .int .i64 0, .int .i64 0, .int .i64 0, .int .i64 0, .int .i64 0] 38)) := Lib.hid (blk_at _ (by simp))
 replace NN : Hid (Below w.heap.size w ((w.alloc (.cells #[.int .i64 A, .int .i64 B] 23)).alloc (.cells #[.int .i64 0, .int .i64 0, .int .i64 0, .int .i64 0, .int .i64 0, .int .i64 0] 38))) := Lib.hid (Bal (Bal NN.out _) _)
 generalize ((w.alloc (.cells #[.int .i64 A, .int .i64 B] 23)).alloc (.cells #[.int .i64 0, .int .i64 0, .int .i64 0, .int .i64 0, .int .i64 0, .int .i64 0] 38)) = W1 at *
 have LW := Lib.hid (blk_lt R.out)
 refine (PC.out _ NN.out).mono ?_
 rintro e w2 ⟨v, rfl, hb, hv0, hv1⟩
 replace NN := Lib.hid (Bgo NN.out hb)
 replace G := Lib.hid (blk_next hb G.out)
 replace R := Lib.hid (blk_next hb R.out)
 clear hb
 have V0 := Lib.hid hv0
 have V1 := Lib.hid hv1
 clear hv0 hv1 PC
 by_cases he : pe ≠ 0
 ·have q1 : (pe != 0) = true := by simpa using he
  have HL : Hid (le = pe) := Lib.hid (by rw [LE0.out, if_pos he])
  have HV : Hid (lv = zV) := Lib.hid (by rw [LV0.out, HL.out, if_neg he])
  clear he LE0 LV0 LO V0 V1
  have c_R_0 := blk_cell R.out 0 _ rfl
  have f_R_0 := blk_frozen R.out 0
  have c_R_1 := blk_cell R.out 1 _ rfl
  have f_R_1 := blk_frozen R.out 1
  have c_R_2 := blk_cell R.out 2 _ rfl
  have f_R_2 := blk_frozen R.out 2
  have c_R_3 := blk_cell R.out 3 _ rfl
  have f_R_3 := blk_frozen R.out 3
  have c_R_4 := blk_cell R.out 4 _ rfl
  have f_R_4 := blk_frozen R.out 4
  have c_R_5 := blk_cell R.out 5 _ rfl
  have f_R_5 := blk_frozen R.out 5
  have l_R := blk_lt R.out
  go_wp2_with fail
  clear c_R_0 f_R_0 c_R_1 f_R_1 c_R_2 f_R_2 c_R_3 f_R_3 c_R_4 f_R_4 c_R_5 f_R_5 l_R
  replace G : Hid (((((((w2.setCell ⟨w.heap.size + 1, 0, none⟩ (.int .i64 0)).setCell ⟨w.heap.size + 1, 1, none⟩ (.int .i64 0)).setCell ⟨w.heap.size + 1, 2, none⟩ (.int .i64 0)).setCell ⟨w.heap.size + 1, 3, none⟩ (.int .i64 0)).setCell ⟨w.heap.size + 1, 4, none⟩ (.int .i64 0)).setCell ⟨w.heap.size + 1, 5, none⟩ (.int .i64 0)).heap[w.heap.size]? = some (.cells #[.int .i64 A, .int .i64 B] 23)) := Lib.hid (blk_set_other (b' := w.heap.size + 1) (blk_set_other (b' := w.heap.size + 1) (blk_set_other (b' := w.heap.size + 1) (blk_set_other (b' := w.heap.size + 1) (blk_set_other (b' := w.heap.size + 1) (blk_set_other (b' := w.heap.size + 1) (G.out) (by omega) 0 (.int .i64 0)) (by omega) 1 (.int .i64 0)) (by omega) 2 (.int .i64 0)) (by omega) 3 (.int .i64 0)) (by omega) 4 (.int .i64 0)) (by omega) 5 (.int .i64 0))
  replace R : Hid (((((((w2.setCell ⟨w.heap.size + 1, 0, none⟩ (.int .i64 0)).setCell ⟨w.heap.size + 1, 1, none⟩ (.int .i64 0)).setCell ⟨w.heap.size + 1, 2, none⟩ (.int .i64 0)).setCell ⟨w.heap.size + 1, 3, none⟩ (.int .i64 0)).setCell ⟨w.heap.size + 1, 4, none⟩ (.int .i64 0)).setCell ⟨w.heap.size + 1, 5, none⟩ (.int .i64 0)).heap[w.heap.size + 1]? = some (.cells #[.int .i64 0, .int .i64 0, .int .i64 0, .int .i64 0, .int .i64 0, .int .i64 0] 38)) := Lib.hid (blk_set (blk_set (blk_set (blk_set (blk_set (blk_set (R.out) 0 (.int .i64 0)) 1 (.int .i64 0)) 2 (.int .i64 0)) 3 (.int .i64 0)) 4 (.int .i64 0)) 5 (.int .i64 0))
  replace NN := Lib.hid (Bset1 (Bset1 (Bset1 (Bset1 (Bset1 (Bset1 (NN.out) (show w.heap.size ≤ w.heap.size + 1 by omega) 0 (.int .i64 0)) (show w.heap.size ≤ w.heap.size + 1 by omega) 1 (.int .i64 0)) (show w.heap.size ≤ w.heap.size + 1 by omega) 2 (.int .i64 0)) (show w.heap.size ≤ w.heap.size + 1 by omega) 3 (.int .i64 0)) (show w.heap.size ≤ w.heap.size + 1 by omega) 4 (.int .i64 0)) (show w.heap.size ≤ w.heap.size + 1 by omega) 5 (.int .i64 0))
  generalize ((((((w2.setCell ⟨w.heap.size + 1, 0, none⟩ (.int .i64 0)).setCell ⟨w.heap.size + 1, 1, none⟩ (.int .i64 0)).setCell ⟨w.heap.size + 1, 2, none⟩ (.int .i64 0)).setCell ⟨w.heap.size + 1, 3, none⟩ (.int .i64 0)).setCell ⟨w.heap.size + 1, 4, none⟩ (.int .i64 0)).setCell ⟨w.heap.size + 1, 5, none⟩ (.int .i64 0)) = W3 at *
  have c_R_0 := blk_cell R.out 0 _ rfl
  have f_R_0 := blk_frozen R.out 0
  have c_R_1 := blk_cell R.out 1 _ rfl
  have f_R_1 := blk_frozen R.out 1
  have c_R_2 := blk_cell R.out 2 _ rfl
  have f_R_2 := blk_frozen R.out 2
  have c_R_3 := blk_cell R.out 3 _ rfl
  have f_R_3 := blk_frozen R.out 3
  have c_R_4 := blk_cell R.out 4 _ rfl
  have f_R_4 := blk_frozen R.out 4
  have c_R_5 := blk_cell R.out 5 _ rfl
  have f_R_5 := blk_frozen R.out 5
  have l_R := blk_lt R.out
  go_wp2_with fail
  exact bodyPost_ret (v := .tuple #[Vv zV, .int .i64 pe]) (by simp [results, Tryz.results13, go_sem, c_R_0, c_R_1, c_R_2, c_R_3, c_R_4, c_R_5, zV]) rfl ⟨by rw [HV.out, HL.out], NN.out⟩
 have he0 : pe = 0 := by omega
 subst he0
 clear he
 obtain ⟨gR, rfl, hg, hr⟩ := V1.out rfl
 clear V0 V1
 have RB := Lib.hid hr
 have LG := Lib.hid hg
 clear hr hg
 rw [if_neg (by simp)] at LE0
 have hc4 : i < 0 ∨ (0 ≤ i ∧ (l.length : Int) ≤ i) ∨ (0 ≤ i ∧ i < l.length ∧ j < 0) ∨ (0 ≤ i ∧ i < l.length ∧ 0 ≤ j ∧ (l.length : Int) ≤ j) ∨ (0 ≤ i ∧ i < l.length ∧ 0 ≤ j ∧ j < l.length) := by omega
 rcases hc4 with h | ⟨h, h1⟩ | ⟨h, h1, h2⟩ | ⟨h, h1, h2, h3⟩ | ⟨h, h1, h2, h3⟩
 ·have HB0 : (inB i l.length && inB j l.length) = false := by unfold inB; rw [decide_eq_false (by omega : ¬ 0 ≤ i)]; rfl
  have HL : Hid (le = 2) := Lib.hid (by rw [LE0.out, HB0]; rfl)
  have HV : Hid (lv = zV) := Lib.hid (by rw [LV0.out, HL.out, if_neg (by decide)])
  have d0 : decide (i < 0) = true := decide_eq_true (by omega)
  clear HB0 LE0 LV0 LO
  have c_R_0 := blk_cell R.out 0 _ rfl
  have f_R_0 := blk_frozen R.out 0
  have c_R_1 := blk_cell R.out 1 _ rfl
  have f_R_1 := blk_frozen R.out 1
  have c_R_2 := blk_cell R.out 2 _ rfl
  have f_R_2 := blk_frozen R.out 2
  have c_R_3 := blk_cell R.out 3 _ rfl
  have f_R_3 := blk_frozen R.out 3
  have c_R_4 := blk_cell R.out 4 _ rfl
  have f_R_4 := blk_frozen R.out 4
  have c_R_5 := blk_cell R.out 5 _ rfl
  have f_R_5 := blk_frozen R.out 5
  have l_R := blk_lt R.out
  go_wp2_with fail
  clear c_R_0 f_R_0 c_R_1 f_R_1 c_R_2 f_R_2 c_R_3 f_R_3 c_R_4 f_R_4 c_R_5 f_R_5 l_R
  replace RB := Lib.hid (blk_set_other (b' := w.heap.size + 1) (blk_set_other (b' := w.heap.size + 1) (blk_set_other (b' := w.heap.size + 1) (blk_set_other (b' := w.heap.size + 1) (blk_set_other (b' := w.heap.size + 1) (blk_set_other (b' := w.heap.size + 1) (RB.out) (by have := LW.out; have := LG.out; omega) 0 (.int .i64 0)) (by have := LW.out; have := LG.out; omega) 1 (.int .i64 0)) (by have := LW.out; have := LG.out; omega) 2 (.int .i64 0)) (by have := LW.out; have := LG.out; omega) 3 (.int .i64 0)) (by have := LW.out; have := LG.out; omega) 4 (.int .i64 0)) (by have := LW.out; have := LG.out; omega) 5 (.int .i64 0))
  replace G : Hid (((((((w2.setCell ⟨w.heap.size + 1, 0, none⟩ (.int .i64 0)).setCell ⟨w.heap.size + 1, 1, none⟩ (.int .i64 0)).setCell ⟨w.heap.size + 1, 2, none⟩ (.int .i64 0)).setCell ⟨w.heap.size + 1, 3, none⟩ (.int .i64 0)).setCell ⟨w.heap.size + 1, 4, none⟩ (.int .i64 0)).setCell ⟨w.heap.size + 1, 5, none⟩ (.int .i64 0)).heap[w.heap.size]? = some (.cells #[.int .i64 A, .int .i64 B] 23)) := Lib.hid (blk_set_other (b' := w.heap.size + 1) (blk_set_other (b' := w.heap.size + 1) (blk_set_other (b' := w.heap.size + 1) (blk_set_other (b' := w.heap.size + 1) (blk_set_other (b' := w.heap.size + 1) (blk_set_other (b' := w.heap.size + 1) (G.out) (by omega) 0 (.int .i64 0)) (by omega) 1 (.int .i64 0)) (by omega) 2 (.int .i64 0)) (by omega) 3 (.int .i64 0)) (by omega) 4 (.int .i64 0)) (by omega) 5 (.int .i64 0))
  replace R : Hid (((((((w2.setCell ⟨w.heap.size + 1, 0, none⟩ (.int .i64 0)).setCell ⟨w.heap.size + 1, 1, none⟩ (.int .i64 0)).setCell ⟨w.heap.size + 1, 2, none⟩ (.int .i64 0)).setCell ⟨w.heap.size + 1, 3, none⟩ (.int .i64 0)).setCell ⟨w.heap.size + 1, 4, none⟩ (.int .i64 0)).setCell ⟨w.heap.size + 1, 5, none⟩ (.int .i64 0)).heap[w.heap.size + 1]? = some (.cells #[.int .i64 0, .int .i64 0, .int .i64 0, .int .i64 0, .int .i64 0, .int .i64 0] 38)) := Lib.hid (blk_set (blk_set (blk_set (blk_set (blk_set (blk_set (R.out) 0 (.int .i64 0)) 1 (.int .i64 0)) 2 (.int .i64 0)) 3 (.int .i64 0)) 4 (.int .i64 0)) 5 (.int .i64 0))
  replace NN := Lib.hid (Bset1 (Bset1 (Bset1 (Bset1 (Bset1 (Bset1 (NN.out) (show w.heap.size ≤ w.heap.size + 1 by omega) 0 (.int .i64 0)) (show w.heap.size ≤ w.heap.size + 1 by omega) 1 (.int .i64 0)) (show w.heap.size ≤ w.heap.size + 1 by omega) 2 (.int .i64 0)) (show w.heap.size ≤ w.heap.size + 1 by omega) 3 (.int .i64 0)) (show w.heap.size ≤ w.heap.size + 1 by omega) 4 (.int .i64 0)) (show w.heap.size ≤ w.heap.size + 1 by omega) 5 (.int .i64 0))
  generalize ((((((w2.setCell ⟨w.heap.size + 1, 0, none⟩ (.int .i64 0)).setCell ⟨w.heap.size + 1, 1, none⟩ (.int .i64 0)).setCell ⟨w.heap.size + 1, 2, none⟩ (.int .i64 0)).setCell ⟨w.heap.size + 1, 3, none⟩ (.int .i64 0)).setCell ⟨w.heap.size + 1, 4, none⟩ (.int .i64 0)).setCell ⟨w.heap.size + 1, 5, none⟩ (.int .i64 0)) = W4 at *
  have c_R_0 := blk_cell R.out 0 _ rfl
  have f_R_0 := blk_frozen R.out 0
  have c_R_1 := blk_cell R.out 1 _ rfl
  have f_R_1 := blk_frozen R.out 1
  have c_R_2 := blk_cell R.out 2 _ rfl
  have f_R_2 := blk_frozen R.out 2
  have c_R_3 := blk_cell R.out 3 _ rfl
  have f_R_3 := blk_frozen R.out 3
  have c_R_4 := blk_cell R.out 4 _ rfl
  have f_R_4 := blk_frozen R.out 4
  have c_R_5 := blk_cell R.out 5 _ rfl
  have f_R_5 := blk_frozen R.out 5
  have l_R := blk_lt R.out
  go_wp2_with fail
  exact bodyPost_ret (v := .tuple #[Vv zV, .int .i64 2]) (by simp [results, Tryz.results13, go_sem, c_R_0, c_R_1, c_R_2, c_R_3, c_R_4, c_R_5, zV]) rfl ⟨by rw [HV.out, HL.out], NN.out⟩
 ·have HB0 : (inB i l.length && inB j l.length) = false := by unfold inB; rw [decide_eq_false (by omega : ¬ i < (l.length : Int))]; simp
  have HL : Hid (le = 2) := Lib.hid (by rw [LE0.out, HB0]; rfl)
  have HV : Hid (lv = zV) := Lib.hid (by rw [LV0.out, HL.out, if_neg (by decide)])
  have d0 : decide (i < 0) = false := decide_eq_false (by omega)
  have d1 : decide ((l.length : Int) ≤ i) = true := decide_eq_true (by omega)
  clear HB0 LE0 LV0 LO
  have c_R_0 := blk_cell R.out 0 _ rfl
  have f_R_0 := blk_frozen R.out 0
  have c_R_1 := blk_cell R.out 1 _ rfl
  have f_R_1 := blk_frozen R.out 1
  have c_R_2 := blk_cell R.out 2 _ rfl
  have f_R_2 := blk_frozen R.out 2
  have c_R_3 := blk_cell R.out 3 _ rfl
  have f_R_3 := blk_frozen R.out 3
  have c_R_4 := blk_cell R.out 4 _ rfl
  have f_R_4 := blk_frozen R.out 4
  have c_R_5 := blk_cell R.out 5 _ rfl
  have f_R_5 := blk_frozen R.out 5
  have l_R := blk_lt R.out
  go_wp2_with fail
  clear c_R_0 f_R_0 c_R_1 f_R_1 c_R_2 f_R_2 c_R_3 f_R_3 c_R_4 f_R_4 c_R_5 f_R_5 l_R
  replace RB := Lib.hid (blk_set_other (b' := w.heap.size + 1) (blk_set_other (b' := w.heap.size + 1) (blk_set_other (b' := w.heap.size + 1) (blk_set_other (b' := w.heap.size + 1) (blk_set_other (b' := w.heap.size + 1) (blk_set_other (b' := w.heap.size + 1) (RB.out) (by have := LW.out; have := LG.out; omega) 0 (.int .i64 0)) (by have := LW.out; have := LG.out; omega) 1 (.int .i64 0)) (by have := LW.out; have := LG.out; omega) 2 (.int .i64 0)) (by have := LW.out; have := LG.out; omega) 3 (.int .i64 0)) (by have := LW.out; have := LG.out; omega) 4 (.int .i64 0)) (by have := LW.out; have := LG.out; omega) 5 (.int .i64 0))
  replace G : Hid (((((((w2.setCell ⟨w.heap.size + 1, 0, none⟩ (.int .i64 0)).setCell ⟨w.heap.size + 1, 1, none⟩ (.int .i64 0)).setCell ⟨w.heap.size + 1, 2, none⟩ (.int .i64 0)).setCell ⟨w.heap.size + 1, 3, none⟩ (.int .i64 0)).setCell ⟨w.heap.size + 1, 4, none⟩ (.int .i64 0)).setCell ⟨w.heap.size + 1, 5, none⟩ (.int .i64 0)).heap[w.heap.size]? = some (.cells #[.int .i64 A, .int .i64 B] 23)) := Lib.hid (blk_set_other (b' := w.heap.size + 1) (blk_set_other (b' := w.heap.size + 1) (blk_set_other (b' := w.heap.size + 1) (blk_set_other (b' := w.heap.size + 1) (blk_set_other (b' := w.heap.size + 1) (blk_set_other (b' := w.heap.size + 1) (G.out) (by omega) 0 (.int .i64 0)) (by omega) 1 (.int .i64 0)) (by omega) 2 (.int .i64 0)) (by omega) 3 (.int .i64 0)) (by omega) 4 (.int .i64 0)) (by omega) 5 (.int .i64 0))
  replace R : Hid (((((((w2.setCell ⟨w.heap.size + 1, 0, none⟩ (.int .i64 0)).setCell ⟨w.heap.size + 1, 1, none⟩ (.int .i64 0)).setCell ⟨w.heap.size + 1, 2, none⟩ (.int .i64 0)).setCell ⟨w.heap.size + 1, 3, none⟩ (.int .i64 0)).setCell ⟨w.heap.size + 1, 4, none⟩ (.int .i64 0)).setCell ⟨w.heap.size + 1, 5, none⟩ (.int .i64 0)).heap[w.heap.size + 1]? = some (.cells #[.int .i64 0, .int .i64 0, .int .i64 0, .int .i64 0, .int .i64 0, .int .i64 0] 38)) := Lib.hid (blk_set (blk_set (blk_set (blk_set (blk_set (blk_set (R.out) 0 (.int .i64 0)) 1 (.int .i64 0)) 2 (.int .i64 0)) 3 (.int .i64 0)) 4 (.int .i64 0)) 5 (.int .i64 0))
  replace NN := Lib.hid (Bset1 (Bset1 (Bset1 (Bset1 (Bset1 (Bset1 (NN.out) (show w.heap.size ≤ w.heap.size + 1 by omega) 0 (.int .i64 0)) (show w.heap.size ≤ w.heap.size + 1 by omega) 1 (.int .i64 0)) (show w.heap.size ≤ w.heap.size + 1 by omega) 2 (.int .i64 0)) (show w.heap.size ≤ w.heap.size + 1 by omega) 3 (.int .i64 0)) (show w.heap.size ≤ w.heap.size + 1 by omega) 4 (.int .i64 0)) (show w.heap.size ≤ w.heap.size + 1 by omega) 5 (.int .i64 0))
  generalize ((((((w2.setCell ⟨w.heap.size + 1, 0, none⟩ (.int .i64 0)).setCell ⟨w.heap.size + 1, 1, none⟩ (.int .i64 0)).setCell ⟨w.heap.size + 1, 2, none⟩ (.int .i64 0)).setCell ⟨w.heap.size + 1, 3, none⟩ (.int .i64 0)).setCell ⟨w.heap.size + 1, 4, none⟩ (.int .i64 0)).setCell ⟨w.heap.size + 1, 5, none⟩ (.int .i64 0)) = W5 at *
  have c_R_0 := blk_cell R.out 0 _ rfl
  have f_R_0 := blk_frozen R.out 0
  have c_R_1 := blk_cell R.out 1 _ rfl
  have f_R_1 := blk_frozen R.out 1
  have c_R_2 := blk_cell R.out 2 _ rfl
  have f_R_2 := blk_frozen R.out 2
  have c_R_3 := blk_cell R.out 3 _ rfl
  have f_R_3 := blk_frozen R.out 3
  have c_R_4 := blk_cell R.out 4 _ rfl
  have f_R_4 := blk_frozen R.out 4
  have c_R_5 := blk_cell R.out 5 _ rfl
  have f_R_5 := blk_frozen R.out 5
  have l_R := blk_lt R.out
  go_wp2_with fail
  exact bodyPost_ret (v := .tuple #[Vv zV, .int .i64 2]) (by simp [results, Tryz.results13, go_sem, c_R_0, c_R_1, c_R_2, c_R_3, c_R_4, c_R_5, zV]) rfl ⟨by rw [HV.out, HL.out], NN.out⟩
 ·have HB0 : (inB i l.length && inB j l.length) = false := by unfold inB; rw [decide_eq_false (by omega : ¬ 0 ≤ j)]; simp
  have HL : Hid (le = 2) := Lib.hid (by rw [LE0.out, HB0]; rfl)
  have HV : Hid (lv = zV) := Lib.hid (by rw [LV0.out, HL.out, if_neg (by decide)])
  have d0 : decide (i < 0) = false := decide_eq_false (by omega)
  have d1 : decide ((l.length : Int) ≤ i) = false := decide_eq_false (by omega)
  have d2 : decide (j < 0) = true := decide_eq_true (by omega)
  clear HB0 LE0 LV0 LO
  have c_R_0 := blk_cell R.out 0 _ rfl
  have f_R_0 := blk_frozen R.out 0
  have c_R_1 := blk_cell R.out 1 _ rfl
  have f_R_1 := blk_frozen R.out 1
  have c_R_2 := blk_cell R.out 2 _ rfl
  have f_R_2 := blk_frozen R.out 2
  have c_R_3 := blk_cell R.out 3 _ rfl
  have f_R_3 := blk_frozen R.out 3
  have c_R_4 := blk_cell R.out 4 _ rfl
  have f_R_4 := blk_frozen R.out 4
  have c_R_5 := blk_cell R.out 5 _ rfl
  have f_R_5 := blk_frozen R.out 5
  have l_R := blk_lt R.out
  go_wp2_with fail
  clear c_R_0 f_R_0 c_R_1 f_R_1 c_R_2 f_R_2 c_R_3 f_R_3 c_R_4 f_R_4 c_R_5 f_R_5 l_R
  replace RB := Lib.hid (blk_set_other (b' := w.heap.size + 1) (blk_set_other (b' := w.heap.size + 1) (blk_set_other (b' := w.heap.size + 1) (blk_set_other (b' := w.heap.size + 1) (blk_set_other (b' := w.heap.size + 1) (blk_set_other (b' := w.heap.size + 1) (RB.out) (by have := LW.out; have := LG.out; omega) 0 (.int .i64 0)) (by have := LW.out; have := LG.out; omega) 1 (.int .i64 0)) (by have := LW.out; have := LG.out; omega) 2 (.int .i64 0)) (by have := LW.out; have := LG.out; omega) 3 (.int .i64 0)) (by have := LW.out; have := LG.out; omega) 4 (.int .i64 0)) (by have := LW.out; have := LG.out; omega) 5 (.int .i64 0))
  replace G : Hid (((((((w2.setCell ⟨w.heap.size + 1, 0, none⟩ (.int .i64 0)).setCell ⟨w.heap.size + 1, 1, none⟩ (.int .i64 0)).setCell ⟨w.heap.size + 1, 2, none⟩ (.int .i64 0)).setCell ⟨w.heap.size + 1, 3, none⟩ (.int .i64 0)).setCell ⟨w.heap.size + 1, 4, none⟩ (.int .i64 0)).setCell ⟨w.heap.size + 1, 5, none⟩ (.int .i64 0)).heap[w.heap.size]? = some (.cells #[.int .i64 A, .int .i64 B] 23)) := Lib.hid (blk_set_other (b' := w.heap.size + 1) (blk_set_other (b' := w.heap.size + 1) (blk_set_other (b' := w.heap.size + 1) (blk_set_other (b' := w.heap.size + 1) (blk_set_other (b' := w.heap.size + 1) (blk_set_other (b' := w.heap.size + 1) (G.out) (by omega) 0 (.int .i64 0)) (by omega) 1 (.int .i64 0)) (by omega) 2 (.int .i64 0)) (by omega) 3 (.int .i64 0)) (by omega) 4 (.int .i64 0)) (by omega) 5 (.int .i64 0))
  replace R : Hid (((((((w2.setCell ⟨w.heap.size + 1, 0, none⟩ (.int .i64 0)).setCell ⟨w.heap.size + 1, 1, none⟩ (.int .i64 0)).setCell ⟨w.heap.size + 1, 2, none⟩ (.int .i64 0)).setCell ⟨w.heap.size + 1, 3, none⟩ (.int .i64 0)).setCell ⟨w.heap.size + 1, 4, none⟩ (.int .i64 0)).setCell ⟨w.heap.size + 1, 5, none⟩ (.int .i64 0)).heap[w.heap.size + 1]? = some (.cells #[.int .i64 0, .int .i64 0, .int .i64 0, .int .i64 0, .int .i64 0, .int .i64 0] 38)) := Lib.hid (blk_set (blk_set (blk_set (blk_set (blk_set (blk_set (R.out) 0 (.int .i64 0)) 1 (.int .i64 0)) 2 (.int .i64 0)) 3 (.int .i64 0)) 4 (.int .i64 0)) 5 (.int .i64 0))
  replace NN := Lib.hid (Bset1 (Bset1 (Bset1 (Bset1 (Bset1 (Bset1 (NN.out) (show w.heap.size ≤ w.heap.size + 1 by omega) 0 (.int .i64 0)) (show w.heap.size ≤ w.heap.size + 1 by omega) 1 (.int .i64 0)) (show w.heap.size ≤ w.heap.size + 1 by omega) 2 (.int .i64 0)) (show w.heap.size ≤ w.heap.size + 1 by omega) 3 (.int .i64 0)) (show w.heap.size ≤ w.heap.size + 1 by omega) 4 (.int .i64 0)) (show w.heap.size ≤ w.heap.size + 1 by omega) 5 (.int .i64 0))
  generalize ((((((w2.setCell ⟨w.heap.size + 1, 0, none⟩ (.int .i64 0)).setCell ⟨w.heap.size + 1, 1, none⟩ (.int .i64 0)).setCell ⟨w.heap.size + 1, 2, none⟩ (.int .i64 0)).setCell ⟨w.heap.size + 1, 3, none⟩ (.int .i64 0)).setCell ⟨w.heap.size + 1, 4, none⟩ (.int .i64 0)).setCell ⟨w.heap.size + 1, 5, none⟩ (.int .i64 0)) = W6 at *
  have c_R_0 := blk_cell R.out 0 _ rfl
  have f_R_0 := blk_frozen R.out 0
  have c_R_1 := blk_cell R.out 1 _ rfl
  have f_R_1 := blk_frozen R.out 1
  have c_R_2 := blk_cell R.out 2 _ rfl
  have f_R_2 := blk_frozen R.out 2
  have c_R_3 := blk_cell R.out 3 _ rfl
  have f_R_3 := blk_frozen R.out 3
  have c_R_4 := blk_cell R.out 4 _ rfl
  have f_R_4 := blk_frozen R.out 4
  have c_R_5 := blk_cell R.out 5 _ rfl
  have f_R_5 := blk_frozen R.out 5
  have l_R := blk_lt R.out
  go_wp2_with fail
  exact bodyPost_ret (v := .tuple #[Vv zV, .int .i64 2]) (by simp [results, Tryz.results13, go_sem, c_R_0, c_R_1, c_R_2, c_R_3, c_R_4, c_R_5, zV]) rfl ⟨by rw [HV.out, HL.out], NN.out⟩
 ·have HB0 : (inB i l.length && inB j l.length) = false := by unfold inB; rw [decide_eq_false (by omega : ¬ j < (l.length : Int))]; simp
  have HL : Hid (le = 2) := Lib.hid (by rw [LE0.out, HB0]; rfl)
  have HV : Hid (lv = zV) := Lib.hid (by rw [LV0.out, HL.out, if_neg (by decide)])
  have d0 : decide (i < 0) = false := decide_eq_false (by omega)
  have d1 : decide ((l.length : Int) ≤ i) = false := decide_eq_false (by omega)
  have d2 : decide (j < 0) = false := decide_eq_false (by omega)
  have d3 : decide ((l.length : Int) ≤ j) = true := decide_eq_true (by omega)
  clear HB0 LE0 LV0 LO
  have c_R_0 := blk_cell R.out 0 _ rfl
  have f_R_0 := blk_frozen R.out 0
  have c_R_1 := blk_cell R.out 1 _ rfl
  have f_R_1 := blk_frozen R.out 1
  have c_R_2 := blk_cell R.out 2 _ rfl
  have f_R_2 := blk_frozen R.out 2
  have c_R_3 := blk_cell R.out 3 _ rfl
  have f_R_3 := blk_frozen R.out 3
  have c_R_4 := blk_cell R.out 4 _ rfl
  have f_R_4 := blk_frozen R.out 4
  have c_R_5 := blk_cell R.out 5 _ rfl
  have f_R_5 := blk_frozen R.out 5
  have l_R := blk_lt R.out
  go_wp2_with fail
  clear c_R_0 f_R_0 c_R_1 f_R_1 c_R_2 f_R_2 c_R_3 f_R_3 c_R_4 f_R_4 c_R_5 f_R_5 l_R
  replace RB := Lib.hid (blk_set_other (b' := w.heap.size + 1) (blk_set_other (b' := w.heap.size + 1) (blk_set_other (b' := w.heap.size + 1) (blk_set_other (b' := w.heap.size + 1) (blk_set_other (b' := w.heap.size + 1) (blk_set_other (b' := w.heap.size + 1) (RB.out) (by have := LW.out; have := LG.out; omega) 0 (.int .i64 0)) (by have := LW.out; have := LG.out; omega) 1 (.int .i64 0)) (by have := LW.out; have := LG.out; omega) 2 (.int .i64 0)) (by have := LW.out; have := LG.out; omega) 3 (.int .i64 0)) (by have := LW.out; have := LG.out; omega) 4 (.int .i64 0)) (by have := LW.out; have := LG.out; omega) 5 (.int .i64 0))
  replace G : Hid (((((((w2.setCell ⟨w.heap.size + 1, 0, none⟩ (.int .i64 0)).setCell ⟨w.heap.size + 1, 1, none⟩ (.int .i64 0)).setCell ⟨w.heap.size + 1, 2, none⟩ (.int .i64 0)).setCell ⟨w.heap.size + 1, 3, none⟩ (.int .i64 0)).setCell ⟨w.heap.size + 1, 4, none⟩ (.int .i64 0)).setCell ⟨w.heap.size + 1, 5, none⟩ (.int .i64 0)).heap[w.heap.size]? = some (.cells #[.int .i64 A, .int .i64 B] 23)) := Lib.hid (blk_set_other (b' := w.heap.size + 1) (blk_set_other (b' := w.heap.size + 1) (blk_set_other (b' := w.heap.size + 1) (blk_set_other (b' := w.heap.size + 1) (blk_set_other (b' := w.heap.size + 1) (blk_set_other (b' := w.heap.size + 1) (G.out) (by omega) 0 (.int .i64 0)) (by omega) 1 (.int .i64 0)) (by omega) 2 (.int .i64 0)) (by omega) 3 (.int .i64 0)) (by omega) 4 (.int .i64 0)) (by omega) 5 (.int .i64 0))
  replace R : Hid (((((((w2.setCell ⟨w.heap.size + 1, 0, none⟩ (.int .i64 0)).setCell ⟨w.heap.size + 1, 1, none⟩ (.int .i64 0)).setCell ⟨w.heap.size + 1, 2, none⟩ (.int .i64 0)).setCell ⟨w.heap.size + 1, 3, none⟩ (.int .i64 0)).setCell ⟨w.heap.size + 1, 4, none⟩ (.int .i64 0)).setCell ⟨w.heap.size + 1, 5, none⟩ (.int .i64 0)).heap[w.heap.size + 1]? = some (.cells #[.int .i64 0, .int .i64 0, .int .i64 0, .int .i64 0, .int .i64 0, .int .i64 0] 38)) := Lib.hid (blk_set (blk_set (blk_set (blk_set (blk_set (blk_set (R.out) 0 (.int .i64 0)) 1 (.int .i64 0)) 2 (.int .i64 0)) 3 (.int .i64 0)) 4 (.int .i64 0)) 5 (.int .i64 0))
  replace NN := Lib.hid (Bset1 (Bset1 (Bset1 (Bset1 (Bset1 (Bset1 (NN.out) (show w.heap.size ≤ w.heap.size + 1 by omega) 0 (.int .i64 0)) (show w.heap.size ≤ w.heap.size + 1 by omega) 1 (.int .i64 0)) (show w.heap.size ≤ w.heap.size + 1 by omega) 2 (.int .i64 0)) (show w.heap.size ≤ w.heap.size + 1 by omega) 3 (.int .i64 0)) (show w.heap.size ≤ w.heap.size + 1 by omega) 4 (.int .i64 0)) (show w.heap.size ≤ w.heap.size + 1 by omega) 5 (.int .i64 0))
  generalize ((((((w2.setCell ⟨w.heap.size + 1, 0, none⟩ (.int .i64 0)).setCell ⟨w.heap.size + 1, 1, none⟩ (.int .i64 0)).setCell ⟨w.heap.size + 1, 2, none⟩ (.int .i64 0)).setCell ⟨w.heap.size + 1, 3, none⟩ (.int .i64 0)).setCell ⟨w.heap.size + 1, 4, none⟩ (.int .i64 0)).setCell ⟨w.heap.size + 1, 5, none⟩ (.int .i64 0)) = W7 at *
  have c_R_0 := blk_cell R.out 0 _ rfl
  have f_R_0 := blk_frozen R.out 0
  have c_R_1 := blk_cell R.out 1 _ rfl
  have f_R_1 := blk_frozen R.out 1
  have c_R_2 := blk_cell R.out 2 _ rfl
  have f_R_2 := blk_frozen R.out 2
  have c_R_3 := blk_cell R.out 3 _ rfl
  have f_R_3 := blk_frozen R.out 3
  have c_R_4 := blk_cell R.out 4 _ rfl
  have f_R_4 := blk_frozen R.out 4
  have c_R_5 := blk_cell R.out 5 _ rfl
  have f_R_5 := blk_frozen R.out 5
  have l_R := blk_lt R.out
  go_wp2_with fail
  exact bodyPost_ret (v := .tuple #[Vv zV, .int .i64 2]) (by simp [results, Tryz.results13, go_sem, c_R_0, c_R_1, c_R_2, c_R_3, c_R_4, c_R_5, zV]) rfl ⟨by rw [HV.out, HL.out], NN.out⟩
 ·have HL : Hid (le = 0) := Lib.hid (by rw [LE0.out, show (inB i l.length && inB j l.length) = true by unfold inB; rw [decide_eq_true h, decide_eq_true h1, decide_eq_true h2, decide_eq_true h3]; rfl]; rfl)
  obtain ⟨i', rfl⟩ := Int.eq_ofNat_of_zero_le h
  obtain ⟨j', rfl⟩ := Int.eq_ofNat_of_zero_le h2
  obtain ⟨s, hs⟩ := get_some (show i' < l.length by omega)
  obtain ⟨t, ht⟩ := get_some (show j' < l.length by omega)
  have HV : Hid (lv = subV (plV A B t) (plV A B s)) := Lib.hid (by rw [LV0.out, HL.out, if_pos rfl, Int.toNat_natCast, Int.toNat_natCast, hs, ht])
  have SK := Lib.hid (LO.out rfl s t (List.mem_of_getElem? hs) (List.mem_of_getElem? ht))
  have HS := Lib.hid (pls_get (A := A) (B := B) hs)
  have HT := Lib.hid (pls_get (A := A) (B := B) ht)
  have d0 : decide ((i' : Int) < 0) = false := decide_eq_false (by omega)
  have d1 : decide ((l.length : Int) ≤ (i' : Int)) = false := decide_eq_false (by omega)
  have d2 : decide ((j' : Int) < 0) = false := decide_eq_false (by omega)
  have d3 : decide ((l.length : Int) ≤ (j' : Int)) = false := decide_eq_false (by omega)
  have k1 : (0 : Int) ≤ (i' : Int) := h
  have k2 : (0 : Int) ≤ (j' : Int) := h2
  have kn1 : i' < l.length := by omega
  have kn2 : j' < l.length := by omega
  clear LE0 LV0 LO hs ht h h2
  generalize plV A B s = sv at *
  generalize plV A B t = tv at *
  have CS := Lib.hid (fun W => vsub_calls tv sv SK.out W)
  generalize subV tv sv = rv at *
  go_upto_region 6 with fail
  have HDRW := Lib.hid (Below.drew (Below.refl w2.heap.size w2))
  replace NN := Lib.hid (Bgo NN.out HDRW.out)
  replace RB := Lib.hid (blk_next HDRW.out RB.out)
  replace G := Lib.hid (blk_next HDRW.out G.out)
  replace R := Lib.hid (blk_next HDRW.out R.out)
  clear HDRW
  have HAL : Hid (∀ kx9 : Nat, GK [(4, gR, .cells ((pls A B l).flatMap pl11).toArray 89), (9, gR, .cells ((pls A B l).flatMap pl11).toArray 89)] kx9 w2.drew) := Lib.hid (fun kx9 px9 hp e => by
   simp only [List.mem_cons, List.not_mem_nil, or_false] at hp
   rcases hp with rfl | rfl
   ·exact RB.out
   ·exact RB.out)
  refine region_G (S := GK [(4, gR, .cells ((pls A B l).flatMap pl11).toArray 89), (9, gR, .cells ((pls A B l).flatMap pl11).toArray 89)]) (by kernel_rfl) ?_
  refine tG 0 (.slice (some ⟨gR, 0, none⟩) l.length l.length) (some 41) (GK.grow _) rfl (YieldsIf.toG (Or.inl ⟨by rfl, ?_⟩)) (GK.drop (by simp)) ?_
  ·intro X hX
   clear hX
   go_simp
  try simp only [Act.put, zA, zB, zC]
  refine tG 1 (.int .i64 (j' : Int)) (some 42) (GK.grow _) rfl (YieldsIf.toG (Or.inl ⟨by rfl, ?_⟩)) (GK.drop (by simp)) ?_
  ·intro X hX
   clear hX
   go_simp
  try simp only [Act.put, zA, zB, zC]
  refine tG 2 (.pointer (some ⟨gR, j' * 11, none⟩)) (some 43) (GK.grow _) rfl (YieldsIf.toG (Or.inl ⟨by rfl, ?_⟩)) (GK.drop (by simp)) ?_
  ·intro X hX
   clear hX
   go_simp
  try simp only [Act.put, zA, zB, zC]
  refine tG 3 (.pointer (some ⟨gR, j' * 11 + 5, none⟩)) (some 44) (GK.grow _) rfl (YieldsIf.toG (Or.inl ⟨by rfl, ?_⟩)) (GK.drop (by simp)) ?_
  ·intro X hX
   clear hX
   go_simp
  try simp only [Act.put, zA, zB, zC]
  refine tG 4 (.agg #[.int .i64 (t, tv).2.x1, .int .i64 (t, tv).2.x2, .int .i64 (t, tv).2.y1, .int .i64 (t, tv).2.y2, .int .i64 (t, tv).2.z1, .int .i64 (t, tv).2.z2]) (some 45) (GK.grow _) rfl (YieldsIf.toG (Or.inl ⟨by rfl, ?_⟩)) (HAL.out 4) ?_
  ·intro X hX
   have hh := hX (4, gR, .cells ((pls A B l).flatMap pl11).toArray 89) (List.Mem.head _) rfl
   have hh0 := rec_cell pl11_len hh HT.out 5 _ rfl
   have hh1 := rec_cell pl11_len hh HT.out 6 _ rfl
   have hh2 := rec_cell pl11_len hh HT.out 7 _ rfl
   have hh3 := rec_cell pl11_len hh HT.out 8 _ rfl
   have hh4 := rec_cell pl11_len hh HT.out 9 _ rfl
   have hh5 := rec_cell pl11_len hh HT.out 10 _ rfl
   have hhl := blk_lt hh
   clear hh
   clear hX
   go_simp
  try simp only [Act.put, zA, zB, zC]
  refine tG 5 (.slice (some ⟨gR, 0, none⟩) l.length l.length) (some 46) (GK.grow _) rfl (YieldsIf.toG (Or.inl ⟨by rfl, ?_⟩)) (GK.drop (by simp)) ?_
  ·intro X hX
   clear hX
   go_simp
  try simp only [Act.put, zA, zB, zC]
  refine tG 6 (.int .i64 (i' : Int)) (some 47) (GK.grow _) rfl (YieldsIf.toG (Or.inl ⟨by rfl, ?_⟩)) (GK.drop (by simp)) ?_
  ·intro X hX
   clear hX
   go_simp
  try simp only [Act.put, zA, zB, zC]
  refine tG 7 (.pointer (some ⟨gR, i' * 11, none⟩)) (some 48) (GK.grow _) rfl (YieldsIf.toG (Or.inl ⟨by rfl, ?_⟩)) (GK.drop (by simp)) ?_
  ·intro X hX
   clear hX
   go_simp
  try simp only [Act.put, zA, zB, zC]
  refine tG 8 (.pointer (some ⟨gR, i' * 11 + 5, none⟩)) (some 49) (GK.grow _) rfl (YieldsIf.toG (Or.inl ⟨by rfl, ?_⟩)) (GK.drop (by simp)) ?_
  ·intro X hX
   clear hX
   go_simp
  try simp only [Act.put, zA, zB, zC]
  refine tG 9 (.agg #[.int .i64 (s, sv).2.x1, .int .i64 (s, sv).2.x2, .int .i64 (s, sv).2.y1, .int .i64 (s, sv).2.y2, .int .i64 (s, sv).2.z1, .int .i64 (s, sv).2.z2]) (some 50) (GK.grow _) rfl (YieldsIf.toG (Or.inl ⟨by rfl, ?_⟩)) (HAL.out 9) ?_
  ·intro X hX
   have hh := hX (9, gR, .cells ((pls A B l).flatMap pl11).toArray 89) (List.Mem.tail _ (List.Mem.head _)) rfl
   have hh0 := rec_cell pl11_len hh HS.out 5 _ rfl
   have hh1 := rec_cell pl11_len hh HS.out 6 _ rfl
   have hh2 := rec_cell pl11_len hh HS.out 7 _ rfl
   have hh3 := rec_cell pl11_len hh HS.out 8 _ rfl
   have hh4 := rec_cell pl11_len hh HS.out 9 _ rfl
   have hh5 := rec_cell pl11_len hh HS.out 10 _ rfl
   have hhl := blk_lt hh
   clear hh
   clear hX
   go_simp
  try simp only [Act.put, zA, zB, zC]
  have CFn : ∀ (args : Array Value) (W : World), Sem.run Tryz.prog (callFunc 39 args) W = .ok (.enter 39 args) W := fun _ _ => by kernel_rfl
  refine tG 10 (.tuple #[.agg #[.int .i64 rv.x1, .int .i64 rv.x2, .int .i64 rv.y1, .int .i64 rv.y2, .int .i64 rv.z1, .int .i64 rv.z2], .int .i64 0]) (some 51) (GK.grow _) rfl (yieldsG_call 39 #[.agg #[.int .i64 (t, tv).2.x1, .int .i64 (t, tv).2.x2, .int .i64 (t, tv).2.y1, .int .i64 (t, tv).2.y2, .int .i64 (t, tv).2.z1, .int .i64 (t, tv).2.z2], .agg #[.int .i64 (s, sv).2.x1, .int .i64 (s, sv).2.x2, .int .i64 (s, sv).2.y1, .int .i64 (s, sv).2.y2, .int .i64 (s, sv).2.z1, .int .i64 (s, sv).2.z2]] (by rfl) ?_ (fun X hS => CS.out X)) (GK.drop (by simp)) ?_
  ·intro X hX
   clear hX
   go_simp
  clear CFn
  try simp only [Act.put, zA, zB, zC]
  refine tG 11 (.agg #[.int .i64 rv.x1, .int .i64 rv.x2, .int .i64 rv.y1, .int .i64 rv.y2, .int .i64 rv.z1, .int .i64 rv.z2]) (some 52) (GK.grow _) rfl (YieldsIf.toG (Or.inl ⟨by rfl, ?_⟩)) (GK.drop (by simp)) ?_
  ·intro X hX
   clear hX
   go_simp
  try simp only [Act.put, zA, zB, zC]
  refine tG 12 (.int .i64 0) (some 53) (GK.grow _) rfl (YieldsIf.toG (Or.inl ⟨by rfl, ?_⟩)) (GK.drop (by simp)) ?_
  ·intro X hX
   clear hX
   go_simp
  try simp only [Act.put, zA, zB, zC]
  refine only_G 13 (by kernel_rfl) rfl (fun X8 hX K' hK' => ?_)
  replace NN := Lib.hid (Bgo NN.out hX)
  replace RB := Lib.hid (blk_next hX RB.out)
  replace G := Lib.hid (blk_next hX G.out)
  replace R := Lib.hid (blk_next hX R.out)
  replace HAL := Lib.hid (fun kx9 => GK.grow _ _ _ _ (HAL.out kx9) hX)
  clear hX
  have c_R_0 := blk_cell R.out 0 _ rfl
  have f_R_0 := blk_frozen R.out 0
  have c_R_1 := blk_cell R.out 1 _ rfl
  have f_R_1 := blk_frozen R.out 1
  have c_R_2 := blk_cell R.out 2 _ rfl
  have f_R_2 := blk_frozen R.out 2
  have c_R_3 := blk_cell R.out 3 _ rfl
  have f_R_3 := blk_frozen R.out 3
  have c_R_4 := blk_cell R.out 4 _ rfl
  have f_R_4 := blk_frozen R.out 4
  have c_R_5 := blk_cell R.out 5 _ rfl
  have f_R_5 := blk_frozen R.out 5
  have l_R := blk_lt R.out
  go_simp
  clear c_R_0 f_R_0 c_R_1 f_R_1 c_R_2 f_R_2 c_R_3 f_R_3 c_R_4 f_R_4 c_R_5 f_R_5 l_R
  refine hK'.out _ _ (fun kk hk hS => ?_) ?_
  ·have HN : ∀ px9 ∈ ([(4, gR, .cells ((pls A B l).flatMap pl11).toArray 89), (9, gR, .cells ((pls A B l).flatMap pl11).toArray 89)] : List (Nat × Nat × Obj)), px9.1 = kk → px9.2.1 ≠ w.heap.size + 1 := fun px9 hp e => by
    simp only [List.mem_cons, List.not_mem_nil, or_false] at hp
    rcases hp with rfl | rfl
    ·subst e
     exact bfl (by kernel_rfl) hk
    ·subst e
     exact bfl (by kernel_rfl) hk
   exact GK.set (GK.set (GK.set (GK.set (GK.set (GK.set hS HN) HN) HN) HN) HN) HN
  clear hK' K'
  try simp only [Act.put, zA, zB, zC]
  clear HAL
  replace RB := Lib.hid (blk_set_other (b' := w.heap.size + 1) (blk_set_other (b' := w.heap.size + 1) (blk_set_other (b' := w.heap.size + 1) (blk_set_other (b' := w.heap.size + 1) (blk_set_other (b' := w.heap.size + 1) (blk_set_other (b' := w.heap.size + 1) (RB.out) (by have := LW.out; have := LG.out; omega) 0 (.int .i64 rv.x1)) (by have := LW.out; have := LG.out; omega) 1 (.int .i64 rv.x2)) (by have := LW.out; have := LG.out; omega) 2 (.int .i64 rv.y1)) (by have := LW.out; have := LG.out; omega) 3 (.int .i64 rv.y2)) (by have := LW.out; have := LG.out; omega) 4 (.int .i64 rv.z1)) (by have := LW.out; have := LG.out; omega) 5 (.int .i64 rv.z2))
  replace G : Hid (((((((X8.setCell ⟨w.heap.size + 1, 0, none⟩ (.int .i64 rv.x1)).setCell ⟨w.heap.size + 1, 1, none⟩ (.int .i64 rv.x2)).setCell ⟨w.heap.size + 1, 2, none⟩ (.int .i64 rv.y1)).setCell ⟨w.heap.size + 1, 3, none⟩ (.int .i64 rv.y2)).setCell ⟨w.heap.size + 1, 4, none⟩ (.int .i64 rv.z1)).setCell ⟨w.heap.size + 1, 5, none⟩ (.int .i64 rv.z2)).heap[w.heap.size]? = some (.cells #[.int .i64 A, .int .i64 B] 23)) := Lib.hid (blk_set_other (b' := w.heap.size + 1) (blk_set_other (b' := w.heap.size + 1) (blk_set_other (b' := w.heap.size + 1) (blk_set_other (b' := w.heap.size + 1) (blk_set_other (b' := w.heap.size + 1) (blk_set_other (b' := w.heap.size + 1) (G.out) (by omega) 0 (.int .i64 rv.x1)) (by omega) 1 (.int .i64 rv.x2)) (by omega) 2 (.int .i64 rv.y1)) (by omega) 3 (.int .i64 rv.y2)) (by omega) 4 (.int .i64 rv.z1)) (by omega) 5 (.int .i64 rv.z2))
  replace R : Hid (((((((X8.setCell ⟨w.heap.size + 1, 0, none⟩ (.int .i64 rv.x1)).setCell ⟨w.heap.size + 1, 1, none⟩ (.int .i64 rv.x2)).setCell ⟨w.heap.size + 1, 2, none⟩ (.int .i64 rv.y1)).setCell ⟨w.heap.size + 1, 3, none⟩ (.int .i64 rv.y2)).setCell ⟨w.heap.size + 1, 4, none⟩ (.int .i64 rv.z1)).setCell ⟨w.heap.size + 1, 5, none⟩ (.int .i64 rv.z2)).heap[w.heap.size + 1]? = some (.cells #[.int .i64 rv.x1, .int .i64 rv.x2, .int .i64 rv.y1, .int .i64 rv.y2, .int .i64 rv.z1, .int .i64 rv.z2] 38)) := Lib.hid (blk_set (blk_set (blk_set (blk_set (blk_set (blk_set (R.out) 0 (.int .i64 rv.x1)) 1 (.int .i64 rv.x2)) 2 (.int .i64 rv.y1)) 3 (.int .i64 rv.y2)) 4 (.int .i64 rv.z1)) 5 (.int .i64 rv.z2))
  replace NN := Lib.hid (Bset1 (Bset1 (Bset1 (Bset1 (Bset1 (Bset1 (NN.out) (show w.heap.size ≤ w.heap.size + 1 by omega) 0 (.int .i64 rv.x1)) (show w.heap.size ≤ w.heap.size + 1 by omega) 1 (.int .i64 rv.x2)) (show w.heap.size ≤ w.heap.size + 1 by omega) 2 (.int .i64 rv.y1)) (show w.heap.size ≤ w.heap.size + 1 by omega) 3 (.int .i64 rv.y2)) (show w.heap.size ≤ w.heap.size + 1 by omega) 4 (.int .i64 rv.z1)) (show w.heap.size ≤ w.heap.size + 1 by omega) 5 (.int .i64 rv.z2))
  generalize ((((((X8.setCell ⟨w.heap.size + 1, 0, none⟩ (.int .i64 rv.x1)).setCell ⟨w.heap.size + 1, 1, none⟩ (.int .i64 rv.x2)).setCell ⟨w.heap.size + 1, 2, none⟩ (.int .i64 rv.y1)).setCell ⟨w.heap.size + 1, 3, none⟩ (.int .i64 rv.y2)).setCell ⟨w.heap.size + 1, 4, none⟩ (.int .i64 rv.z1)).setCell ⟨w.heap.size + 1, 5, none⟩ (.int .i64 rv.z2)) = W9 at *
  refine tG 14 (.int .i64 0) (some 9) (GK.grow _) rfl (YieldsIf.toG (Or.inl ⟨by rfl, ?_⟩)) (GK.drop (by simp)) ?_
  ·intro X hX
   clear hX
   go_simp
  try simp only [Act.put, zA, zB, zC]
  refine done_G (by kernel_rfl) (fun X10 hX => ?_) _
  replace NN := Lib.hid (Bgo NN.out hX)
  replace RB := Lib.hid (blk_next hX RB.out)
  replace G := Lib.hid (blk_next hX G.out)
  replace R := Lib.hid (blk_next hX R.out)
  clear hX
  have c_R_0 := blk_cell R.out 0 _ rfl
  have f_R_0 := blk_frozen R.out 0
  have c_R_1 := blk_cell R.out 1 _ rfl
  have f_R_1 := blk_frozen R.out 1
  have c_R_2 := blk_cell R.out 2 _ rfl
  have f_R_2 := blk_frozen R.out 2
  have c_R_3 := blk_cell R.out 3 _ rfl
  have f_R_3 := blk_frozen R.out 3
  have c_R_4 := blk_cell R.out 4 _ rfl
  have f_R_4 := blk_frozen R.out 4
  have c_R_5 := blk_cell R.out 5 _ rfl
  have f_R_5 := blk_frozen R.out 5
  have l_R := blk_lt R.out
  go_wp2_with fail
  exact bodyPost_ret (v := .tuple #[Vv rv, .int .i64 0]) (by simp [results, Tryz.results13, go_sem, c_R_0, c_R_1, c_R_2, c_R_3, c_R_4, c_R_5]) rfl ⟨by rw [HV.out, HL.out], NN.out⟩
end Go.Proofs.YtfangplfbbgphaaGreatDoor
namespace Go.Proofs.YtfangplfbbgphaaGreatDoor
open Go.ChangeShapes Go.WideShapes Go.ChangeAt Go.RowKit
set_option linter.unusedVariables false
set_option maxRecDepth 100000
set_option linter.unusedSimpArgs false
attribute [local go_sem ↓] Go.wp_at_zero Go.wp_at_succ
theorem own_grown {B : Nat} {W W' : World} {e : TypeId} {sz n : Nat} {v : Value} {xs : List Value} (h : W.ownsRow B e sz v n xs) (hg : W.grownBy W' v.ownBlock) (hB : B ≤ W.heap.size) : Below B W W' := by
 refine (Below.refl B W).grown hg hB fun k e => ?_
 rcases h.2 with ⟨h5, _⟩ | ⟨g, cap', cur, hv, hb, _⟩
 ·rw [h5] at e; cases e
 ·rw [hv] at e; simp [Value.ownBlock] at e; omega
theorem blk_B {B : Nat} {W X : World} (h : Below B W X) {b : Nat} {o : Obj} (hb : W.heap[b]? = some o) (hlt : b < B) : X.heap[b]? = some o := (h.block b hlt).trans hb
theorem cell_same {W X : World} {b : Nat} (h : X.heap[b]? = W.heap[b]?) (o : Nat) : X.cell? ⟨b, o, none⟩ = W.cell? ⟨b, o, none⟩ := by
 unfold World.cell?
 simp only [h]
theorem plB_prm {n d m k : Int} (h : plB n d m k = true) : prmB n d = true ∧ prmB m k = true := by
 unfold plB at h
 simp only [Bool.and_eq_true] at h
 exact ⟨h.1, h.2.1⟩
end Go.Proofs.YtfangplfbbgphaaGreatDoor
namespace Go.Proofs.YtfangplfbbgphaaGreatDoor
open Go.ChangeShapes Go.WideShapes Go.ChangeAt Go.RowKit
set_option linter.unusedVariables false
set_option maxRecDepth 100000
set_option linter.unusedSimpArgs false
attribute [local go_sem ↓] Go.wp_at_zero Go.wp_at_succ
theorem eqVe_self (a : V6) (w : World) : (Op.equalIn 10000 38 (Vv a) (Vv a)).run Tryz.prog w = .ok true w := by
 rw [eqVe]; simp
theorem eqSt_self (a : St) (w : World) : (Op.equalIn 10000 69 (Sv a) (Sv a)).run Tryz.prog w = .ok true w := by
 obtain ⟨a1, a2, a3, a4, a5⟩ := a
 have uu := Tryz.underlying2
 have ua := Tryz.isAgg2
 have uz := Tryz.sizeOf2
 have su := Tryz.underlying9
 have sa := Tryz.isAgg9
 have sz := Tryz.sizeOf9
 have fu := Tryz.underlying36
 rw [show (10000 : Nat) = 9999 + 1 from rfl, Op.equalIn]
 simp only [Sem.run_bind, run_underlying Tryz.underlying69, Result.andThen_ok]
 go_simp
theorem eqPr_self (a b : Int) (w : World) : (Op.equalIn 10000 43 (.agg #[.int .i64 a, .int .i64 b]) (.agg #[.int .i64 a, .int .i64 b])).run Tryz.prog w = .ok true w := by
 have uu := Tryz.underlying3
 have ua := Tryz.isAgg3
 have uz := Tryz.sizeOf3
 rw [show (10000 : Nat) = 9999 + 1 from rfl, Op.equalIn]
 simp only [Sem.run_bind, run_underlying Tryz.underlying43, Result.andThen_ok]
 go_simp
attribute [local go_sem ↓] eqVe_self eqSt_self eqPr_self
def okO (q : List Int) (n k : Nat) : Bool := match q[k]? with
 | some x => decide (0 ≤ x) && (decide (x < n) && !((q.take k).contains x))
 | none => false
def ordB (q : List Int) (n : Nat) : Bool := decide (q.length = n) && (List.range q.length).all fun k => okO q n k
theorem ordB_no {q : List Int} {n k : Nat} {x : Int} (hx : q[k]? = some x) (h : okO q n k = false) : ordB q n = false := by
 have e : ((List.range q.length).all fun k => okO q n k) = false := by
  cases e : ((List.range q.length).all fun k => okO q n k)
  ·rfl
  ·have := List.all_eq_true.1 e k (List.mem_range.2 (get_lt hx))
   rw [h] at this; cases this
 unfold ordB
 rw [e, Bool.and_false]
theorem ordB_yes {q : List Int} {n : Nat} (hn : q.length = n) (h : ∀ k, k < q.length → okO q n k = true) : ordB q n = true := by
 unfold ordB
 rw [decide_eq_true hn, Bool.true_and, List.all_eq_true]
 exact fun k hk => h k (List.mem_range.1 hk)
def usedC (q : List Int) (k N : Nat) : List Value := (List.range N).map fun (t : Nat) => Value.bool ((q.take k).contains (t : Int))
theorem usedC_len (q : List Int) (k N : Nat) : (usedC q k N).length = N := by simp [usedC]
theorem usedC_get (q : List Int) (k : Nat) {N t : Nat} (h : t < N) : (usedC q k N)[t]? = some (.bool ((q.take k).contains (t : Int))) := by
 unfold usedC; rw [List.getElem?_map, List.getElem?_range h]; rfl
theorem usedC_set {q : List Int} {k N t : Nat} (h : t < N) (hq : q[k]? = some (t : Int)) : (usedC q k N).set t (.bool true) = usedC q (k + 1) N := by
 have hlt := get_lt hq
 have e : q[k] = (t : Int) := by rw [List.getElem?_eq_getElem hlt] at hq; exact Option.some.inj hq
 apply List.ext_getElem?
 intro i
 by_cases hi : i < N
 ·rw [usedC_get q (k + 1) hi, List.getElem?_set, usedC_len, List.take_succ_eq_append_getElem hlt, e]
  by_cases h2 : t = i
  ·subst h2; rw [if_pos rfl, if_pos hi]; simp
  ·rw [if_neg h2, usedC_get q k hi]
   have : ¬ ((i : Int) = (t : Int)) := by omega
   simp [this]
 ·rw [List.getElem?_eq_none (by rw [List.length_set, usedC_len]; omega), List.getElem?_eq_none (by rw [usedC_len]; omega)]
theorem usedC_zero (q : List Int) (N : Nat) : usedC q 0 N = List.replicate N (.bool false) := by
 unfold usedC
 apply List.ext_getElem?
 intro i
 by_cases hi : i < N
 ·rw [List.getElem?_map, List.getElem?_range hi, List.getElem?_replicate, if_pos hi]; simp
 ·rw [List.getElem?_eq_none (by simp; omega), List.getElem?_eq_none (by simp; omega)]
set_option maxRecDepth 100000 in
set_option maxHeartbeats 4000000 in
theorem sameV_calls (A A' : Option Addr) (c c' : Nat) (l : List V6) (w : World) (h : Rd w 6 A l.length (l.flatMap v6)) (h' : Rd w 6 A' l.length (l.flatMap v6)) (hc : l.length ≤ c) (hc1 : c ≤ 9223372036854775807) (hc' : l.length ≤ c') (hc1' : c' ≤ 9223372036854775807) :
  Calls Tryz.prog 35 #[.slice A l.length c, .slice A' l.length c'] w fun e w' => e = .returned (.bool true) ∧ Below w.heap.size w w' := by
 have H1 := Lib.hid h
 have H2 := Lib.hid h'
 clear h h'
 go_enter Tryz.func35, Tryz.ntmps35
 go_wp2_with fail
 go_loopw [5] (fun i wr => ∃ k : Nat, k ≤ l.length ∧ i = .int .i64 k ∧ Hid (Below w.heap.size w wr)) (fun i _ => l.length - (intOf i).toNat)
 case atStart => exact ⟨0, by omega, rfl, Lib.hid (Below.refl _ _)⟩
 case round =>
  obtain ⟨k, hk, rfl, NN⟩ := hrel
  by_cases hlt : k < l.length
  ·obtain ⟨x, hx⟩ := get_some hlt
   obtain ⟨b, off, e, hb, hc0⟩ := Rd.rec_ H1.out (Nat.le_refl _) v6_len hx
   obtain ⟨b', off', e', hb', hc0'⟩ := Rd.rec_ H2.out (Nat.le_refl _) v6_len hx
   subst e e'
   have c0 := (NN.out.cell (p := ⟨b, off + k * 6, none⟩) hb).trans (hc0 0 _ rfl)
   have d0 := (NN.out.cell (p := ⟨b', off' + k * 6, none⟩) hb').trans (hc0' 0 _ rfl)
   have c1 := (NN.out.cell (p := ⟨b, off + k * 6 + 1, none⟩) hb).trans (hc0 1 _ rfl)
   have d1 := (NN.out.cell (p := ⟨b', off' + k * 6 + 1, none⟩) hb').trans (hc0' 1 _ rfl)
   have c2 := (NN.out.cell (p := ⟨b, off + k * 6 + 2, none⟩) hb).trans (hc0 2 _ rfl)
   have d2 := (NN.out.cell (p := ⟨b', off' + k * 6 + 2, none⟩) hb').trans (hc0' 2 _ rfl)
   have c3 := (NN.out.cell (p := ⟨b, off + k * 6 + 3, none⟩) hb).trans (hc0 3 _ rfl)
   have d3 := (NN.out.cell (p := ⟨b', off' + k * 6 + 3, none⟩) hb').trans (hc0' 3 _ rfl)
   have c4 := (NN.out.cell (p := ⟨b, off + k * 6 + 4, none⟩) hb).trans (hc0 4 _ rfl)
   have d4 := (NN.out.cell (p := ⟨b', off' + k * 6 + 4, none⟩) hb').trans (hc0' 4 _ rfl)
   have c5 := (NN.out.cell (p := ⟨b, off + k * 6 + 5, none⟩) hb).trans (hc0 5 _ rfl)
   have d5 := (NN.out.cell (p := ⟨b', off' + k * 6 + 5, none⟩) hb').trans (hc0' 5 _ rfl)
   have hbr : b < wr.heap.size := Nat.lt_of_lt_of_le hb NN.out.size
   have hbr' : b' < wr.heap.size := Nat.lt_of_lt_of_le hb' NN.out.size
   have kk : k + 1 ≤ l.length := hlt
   have k1 : (k : Int) < (l.length : Int) := by omega
   clear hc0 hc0' hx hlt hb hb'
   go_wp2_with fail
   go_quiet (fail)
   replace NN := Lib.hid (below_drewN NN.out nq)
   clear c0 d0 c1 d1 c2 d2 c3 d3 c4 d4 c5 d5
   go_wp2_with fail
   go_roundw
   case rel => exact ⟨k + 1, kk, by go_num, NN⟩
   case measure => simp [intOf]; omega
  ·obtain rfl : k = l.length := by omega
   go_wp2_with fail
   go_ret
   exact ⟨rfl, NN.out⟩
set_option maxRecDepth 100000 in
set_option maxHeartbeats 4000000 in
theorem sameP_calls (A A' : Option Addr) (c c' : Nat) (l : List (Nat × Nat)) (w : World) (h : Rd w 2 A l.length (l.flatMap pr2)) (h' : Rd w 2 A' l.length (l.flatMap pr2)) (hc : l.length ≤ c) (hc1 : c ≤ 9223372036854775807) (hc' : l.length ≤ c') (hc1' : c' ≤ 9223372036854775807) :
  Calls Tryz.prog 32 #[.slice A l.length c, .slice A' l.length c'] w fun e w' => e = .returned (.bool true) ∧ Below w.heap.size w w' := by
 have H1 := Lib.hid h
 have H2 := Lib.hid h'
 clear h h'
 go_enter Tryz.func32, Tryz.ntmps32
 go_wp2_with fail
 go_loopw [5] (fun i wr => ∃ k : Nat, k ≤ l.length ∧ i = .int .i64 k ∧ Hid (Below w.heap.size w wr)) (fun i _ => l.length - (intOf i).toNat)
 case atStart => exact ⟨0, by omega, rfl, Lib.hid (Below.refl _ _)⟩
 case round =>
  obtain ⟨k, hk, rfl, NN⟩ := hrel
  by_cases hlt : k < l.length
  ·obtain ⟨x, hx⟩ := get_some hlt
   obtain ⟨b, off, e, hb, hc0⟩ := Rd.rec_ H1.out (Nat.le_refl _) pr2_len hx
   obtain ⟨b', off', e', hb', hc0'⟩ := Rd.rec_ H2.out (Nat.le_refl _) pr2_len hx
   subst e e'
   have c0 := (NN.out.cell (p := ⟨b, off + k * 2, none⟩) hb).trans (hc0 0 _ rfl)
   have d0 := (NN.out.cell (p := ⟨b', off' + k * 2, none⟩) hb').trans (hc0' 0 _ rfl)
   have c1 := (NN.out.cell (p := ⟨b, off + k * 2 + 1, none⟩) hb).trans (hc0 1 _ rfl)
   have d1 := (NN.out.cell (p := ⟨b', off' + k * 2 + 1, none⟩) hb').trans (hc0' 1 _ rfl)
   have hbr : b < wr.heap.size := Nat.lt_of_lt_of_le hb NN.out.size
   have hbr' : b' < wr.heap.size := Nat.lt_of_lt_of_le hb' NN.out.size
   have kk : k + 1 ≤ l.length := hlt
   have k1 : (k : Int) < (l.length : Int) := by omega
   clear hc0 hc0' hx hlt hb hb'
   go_wp2_with fail
   go_quiet (fail)
   replace NN := Lib.hid (below_drewN NN.out nq)
   clear c0 d0 c1 d1
   go_wp2_with fail
   go_roundw
   case rel => exact ⟨k + 1, kk, by go_num, NN⟩
   case measure => simp [intOf]; omega
  ·obtain rfl : k = l.length := by omega
   go_wp2_with fail
   go_ret
   exact ⟨rfl, NN.out⟩
end Go.Proofs.YtfangplfbbgphaaGreatDoor
