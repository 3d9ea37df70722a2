/- Several texts in one. -/
import Derived.Test.YtbbnkclajpaghaaGreatDoorMF15
set_option maxHeartbeats 8000000
set_option maxRecDepth 100000
set_option linter.unusedVariables false
set_option linter.unusedSimpArgs false
namespace Go.Proofs.YtbbnkclajpaghaaGreatDoor
open Go.ChangeShapes Go.WideShapes Go.ChangeAt Go.RowKit
attribute [local go_sem ↓] Go.wp_at_zero Go.wp_at_succ
theorem wgt_take {l : List Vr} {k : Nat} (h : k < l.length) : wgt (l.take (k + 1)) = wgt (l.take k) + (rowAt l k).n := by
 rw [List.take_succ_eq_append_getElem h, wgt_append, rowAt_lt h]
 simp [wgt]
theorem hd_row {l : List Vr} (h : 0 < l.length) : hdV l = rowAt l 0 := by
 rw [rowAt_lt h]; unfold hdV
 cases l with
 | nil => exact absurd h (by simp)
 | cons r l => rfl
theorem two_next {W X : World} {b off : Nat} {u v : Value} (h : b < W.heap.size ∧ W.cell? ⟨b, off, none⟩ = some u ∧ W.cell? ⟨b, off + 1, none⟩ = some v) (hb : Below W.heap.size W X) : b < X.heap.size ∧ X.cell? ⟨b, off, none⟩ = some u ∧ X.cell? ⟨b, off + 1, none⟩ = some v :=
 ⟨Nat.lt_of_lt_of_le h.1 hb.size, (hb.cell (p := ⟨b, off, none⟩) h.1).trans h.2.1, (hb.cell (p := ⟨b, off + 1, none⟩) h.1).trans h.2.2⟩
abbrev MnV (x : Int × Vr) : Value := .tuple #[Wv x.2, .int .i64 x.1]
theorem visE_ok {r : Vr} (h : visB r = true) : visE r = 0 := by unfold visE; rw [h]; rfl
theorem checkList_calls {A : Option Addr} {c : Nat} {l : List Vr} {w : World} (hl : RV6 w A l) (hc : l.length ≤ c) (hc' : c ≤ 9223372036854775807) (hn : l.length ≤ 200) (hv : ∀ r ∈ l, visB r = true) : Calls Tryz.prog 75 #[.slice A l.length c] w fun e w' => e = .returned (.int .i64 0) ∧ Below w.heap.size w w' := by
 have NN := zh (Below.refl w.heap.size w)
 have HL := zh hl
 have HV := zh hv
 clear hl hv
 go_enter Tryz.func75, Tryz.ntmps75
 go_wp2_with fail
 go_loopw [10] (fun p wr => ∃ k : Nat, k ≤ l.length ∧ p = .int .i64 k ∧ Hid (Below w.heap.size w wr)) (fun p _ => l.length - (intOf p).toNat)
 case atStart => exact ⟨0, Nat.zero_le _, rfl, NN⟩
 case round =>
  clear NN
  obtain ⟨k, hk, rfl, NN⟩ := hrel
  by_cases hlt : l.length ≤ k
  ·have e : k = l.length := by omega
   subst e
   clear hk hlt
   go_wp2_with fail
   go_ret
   exact ⟨rfl, NN.out⟩
  replace hlt : k < l.length := by omega
  obtain ⟨b, off, eA, bl, a0, a1, a2, a3, a4, a5⟩ := RV6.at_ HL.out hlt
  have HR : Hid (visB (rowAt l k) = true) := zh (by rw [rowAt_lt hlt]; exact HV.out _ (List.getElem_mem hlt))
  generalize rowAt l k = r at *
  subst eA
  replace a0 := (NN.out.cell (p := ⟨b, off + k * 6, none⟩) bl).trans a0
  replace a1 := (NN.out.cell (p := ⟨b, off + k * 6 + 1, none⟩) bl).trans a1
  replace a2 := (NN.out.cell (p := ⟨b, off + k * 6 + 2, none⟩) bl).trans a2
  replace a3 := (NN.out.cell (p := ⟨b, off + k * 6 + 3, none⟩) bl).trans a3
  replace a4 := (NN.out.cell (p := ⟨b, off + k * 6 + 4, none⟩) bl).trans a4
  replace a5 := (NN.out.cell (p := ⟨b, off + k * 6 + 5, none⟩) bl).trans a5
  have lb := Nat.lt_of_lt_of_le bl NN.out.size
  have hkc : k < c := by omega
  have HC := zh (wcheck_calls r)
  rw [visE_ok HR.out] at HC
  go_wp2_with fail
  clear a0 a1 a2 a3 a4 a5 lb
  refine (HC.out _).mono ?_
  rintro e w9 ⟨rfl, hb⟩
  replace NN := zh (Bgo (Bal NN.out _) hb)
  go_wp2_with fail
  exact ⟨⟨k + 1, by omega, by go_num, NN⟩, by simp [intOf]; omega⟩
theorem mean_calls {A : Option Addr} {c : Nat} {l : List Vr} {w : World} (hne : l ≠ []) (hl : RV6 w A l) (hc : l.length ≤ c) (hc' : c ≤ 9223372036854775807) (hn : l.length ≤ 200) (hv : ∀ r ∈ l, visB r = true) : Calls Tryz.prog 76 #[.slice A l.length c] w fun e w' => e = .returned (MnV (meanF l)) ∧ Below w.heap.size w w' := by
 have NN := zh (Below.refl w.heap.size w)
 have HL := zh hl
 have HV := zh hv
 have h0 : 0 < l.length := List.length_pos_iff.2 hne
 obtain ⟨R, hR⟩ : ∃ R, meanF l = R := ⟨_, rfl⟩
 rw [hR]
 have HRR := zh hR
 clear hl hv hne hR
 go_enter Tryz.func76, Tryz.ntmps76
 go_upto_region 2 with fail
 have Z : Hid ((w.alloc (.cells #[.int .i64 0, .int .i64 0, .int .i64 0, .int .i64 0, .int .i64 0, .int .i64 0] 42)).heap[w.heap.size]? = some (.cells #[.int .i64 0, .int .i64 0, .int .i64 0, .int .i64 0, .int .i64 0, .int .i64 0] 42)) := zh (blk_new w _)
 replace NN : Hid (Below w.heap.size w (w.alloc (.cells #[.int .i64 0, .int .i64 0, .int .i64 0, .int .i64 0, .int .i64 0, .int .i64 0] 42))) := zh (Bal NN.out _)
 generalize (w.alloc (.cells #[.int .i64 0, .int .i64 0, .int .i64 0, .int .i64 0, .int .i64 0, .int .i64 0] 42)) = W1 at *
 go_wp2_with fail
 go_loopw [4, 14] (fun q p wr => ∃ k : Nat, k ≤ l.length ∧ p = .int .i64 k ∧ q = .int .i64 (wgt (l.take k)) ∧ Hid (Below w.heap.size w wr) ∧ Hid (wr.heap[w.heap.size]? = some (.cells #[.int .i64 0, .int .i64 0, .int .i64 0, .int .i64 0, .int .i64 0, .int .i64 0] 42))) (fun _ p _ => l.length - (intOf p).toNat)
 case atStart => exact ⟨0, Nat.zero_le _, rfl, rfl, NN, Z⟩
 case round =>
  clear NN Z
  obtain ⟨k, hk, rfl, rfl, NN, Z⟩ := hrel
  by_cases hlt : l.length ≤ k
  ·have e : k = l.length := by omega
   subst e
   clear hk hlt
   rw [List.take_length]
   have HW := zh (wgt_bd HV.out)
   have CR := zh (fun W (h : RV6 W A l) => meanOf_re h hc hc' (by omega) HV.out)
   have CI := zh (fun W (h : RV6 W A l) => meanOf_im h hc hc' (by omega) HV.out)
   have V1 := zh (fun n d e (h : avgR false l = (n, d, e)) (h0 : wgt l ≠ 0) => avgR_val false HV.out (by omega) h0 h)
   have V2 := zh (fun n d e (h : avgR true l = (n, d, e)) (h0 : wgt l ≠ 0) => avgR_val true HV.out (by omega) h0 h)
   obtain ⟨xn, xd, xe, hx⟩ : ∃ n d e, avgR false l = (n, d, e) := ⟨_, _, _, rfl⟩
   obtain ⟨yn, yd, ye, hy⟩ : ∃ n d e, avgR true l = (n, d, e) := ⟨_, _, _, rfl⟩
   have MF : Hid (R = if wgt l = 0 then (18, zV) else if xe ≠ 0 then (xe, zV) else if ye ≠ 0 then (ye, zV) else match valO xn xd yn yd with | none => (16, zV) | some (a, b, D) => if 1000000 < wgt l then (16, zV) else (0, ⟨(hdV l).t, (hdV l).c, (hdV l).i, (hdV l).j, a, b, D, wgt l⟩)) := zh (by rw [← HRR.out]; unfold meanF; rw [hx, hy]; rfl)
   replace V1 := zh (V1.out _ _ _ hx)
   replace V2 := zh (V2.out _ _ _ hy)
   rw [hx] at CR
   rw [hy] at CI
   clear hx hy HRR
   obtain ⟨b, off, eA, bl, a0, a1, -⟩ := RV6.at_ HL.out h0
   have HH : Hid (hdV l = rowAt l 0) := zh (hd_row h0)
   generalize rowAt l 0 = r at *
   subst eA
   have BL := zh bl
   simp only [Nat.zero_mul, Nat.add_zero] at a0 a1
   have A0 := zh (And.intro a0 a1)
   clear bl a0 a1
   generalize wgt l = N at *
   have MR : Hid (N = 0 → R = (18, zV)) := zh (fun h => by rw [MF.out, if_pos h])
   by_cases hN : N = 0
   skip
   ·have R0 := zh (MR.out hN)
    have qN : (N == 0) = true := by simp [hN]
    clear MR MF V1 V2 hN
    obtain ⟨c_Z_0, f_Z_0, c_Z_1, f_Z_1, c_Z_2, f_Z_2, c_Z_3, f_Z_3, c_Z_4, f_Z_4, c_Z_5, f_Z_5, l_Z⟩ := zfl6 Z
    go_wp2_with fail
    clear c_Z_0 f_Z_0 c_Z_1 f_Z_1 c_Z_2 f_Z_2 c_Z_3 f_Z_3 c_Z_4 f_Z_4 c_Z_5 f_Z_5 l_Z
    generalize hW : ((((((wr.setCell ⟨w.heap.size, 0, none⟩ (.int .i64 0)).setCell ⟨w.heap.size, 1, none⟩ (.int .i64 0)).setCell ⟨w.heap.size, 2, none⟩ (.int .i64 0)).setCell ⟨w.heap.size, 3, none⟩ (.int .i64 0)).setCell ⟨w.heap.size, 4, none⟩ (.int .i64 0)).setCell ⟨w.heap.size, 5, none⟩ (.int .i64 0)) = W2 at *
    replace hW : wr.setCells w.heap.size 0 [.int .i64 0, .int .i64 0, .int .i64 0, .int .i64 0, .int .i64 0, .int .i64 0] = W2 := hW
    replace NN := zh (all_below hW NN.out (by omega))
    replace Z := zh (all_set hW Z.out rfl)
    clear hW
    obtain ⟨c_Z_0, c_Z_1, c_Z_2, c_Z_3, c_Z_4, c_Z_5, l_Z⟩ := zcl6 Z
    exact bodyPost_ret (v := .tuple #[.agg #[.int .i64 0, .int .i64 0, .int .i64 0, .int .i64 0, .int .i64 0, .int .i64 0], .int .i64 18]) (by simp [results, Tryz.results76, go_sem, c_Z_0, c_Z_1, c_Z_2, c_Z_3, c_Z_4, c_Z_5]) rfl ⟨by rw [R0.out]; rfl, NN.out⟩
   have qN : (N == 0) = false := by simpa using hN
   have HN0 := zh hN
   clear MR
   go_wp2_with fail
   refine (CR.out _ (Rd.next NN.out HL.out)).mono ?_
   rintro e w3 ⟨rfl, hb⟩
   replace NN := zh (Bgo NN.out hb)
   replace Z := zn hb Z
   clear hb
   go_upto_region 10 with fail
   obtain ⟨HB, X⟩ := zl (w := w3) (.cells #[.int .i64 xn, .int .i64 xd] 83)
   have LT_X : Hid (w.heap.size < w3.heap.size ∧ w.heap.size ≤ w3.heap.size) := zh ⟨blk_lt Z.out, NN.out.size⟩
   replace NN := zh (Bgo NN.out HB.out)
   replace Z := zn HB Z
   clear HB
   generalize (w3.alloc (.cells #[.int .i64 xn, .int .i64 xd] 83)) = W4 at *
   generalize w3.heap.size = gX at *
   by_cases hx0 : xe = 0
   rotate_left
   ·have R0 : Hid (R = (xe, zV)) := zh (by rw [MF.out, if_neg hN, if_pos hx0])
    have qx : (xe != 0) = true := by simpa using hx0
    clear MF V1 V2
    obtain ⟨c_Z_0, f_Z_0, c_Z_1, f_Z_1, c_Z_2, f_Z_2, c_Z_3, f_Z_3, c_Z_4, f_Z_4, c_Z_5, f_Z_5, l_Z⟩ := zfl6 Z
    go_wp2_with fail
    clear c_Z_0 f_Z_0 c_Z_1 f_Z_1 c_Z_2 f_Z_2 c_Z_3 f_Z_3 c_Z_4 f_Z_4 c_Z_5 f_Z_5 l_Z
    generalize hW : ((((((W4.setCell ⟨w.heap.size, 0, none⟩ (.int .i64 0)).setCell ⟨w.heap.size, 1, none⟩ (.int .i64 0)).setCell ⟨w.heap.size, 2, none⟩ (.int .i64 0)).setCell ⟨w.heap.size, 3, none⟩ (.int .i64 0)).setCell ⟨w.heap.size, 4, none⟩ (.int .i64 0)).setCell ⟨w.heap.size, 5, none⟩ (.int .i64 0)) = W5 at *
    replace hW : W4.setCells w.heap.size 0 [.int .i64 0, .int .i64 0, .int .i64 0, .int .i64 0, .int .i64 0, .int .i64 0] = W5 := hW
    replace NN := zh (all_below hW NN.out (by omega))
    replace X := zh (all_other hW X.out (by have := LT_X.out; omega))
    replace Z := zh (all_set hW Z.out rfl)
    clear hW
    obtain ⟨c_Z_0, c_Z_1, c_Z_2, c_Z_3, c_Z_4, c_Z_5, l_Z⟩ := zcl6 Z
    exact bodyPost_ret (v := .tuple #[.agg #[.int .i64 0, .int .i64 0, .int .i64 0, .int .i64 0, .int .i64 0, .int .i64 0], .int .i64 xe]) (by simp [results, Tryz.results76, go_sem, c_Z_0, c_Z_1, c_Z_2, c_Z_3, c_Z_4, c_Z_5]) rfl ⟨by rw [R0.out]; rfl, NN.out⟩
   subst hx0
   go_wp2_with fail
   refine (CI.out _ (Rd.next NN.out HL.out)).mono ?_
   rintro e w6 ⟨rfl, hb⟩
   replace NN := zh (Bgo NN.out hb)
   replace Z := zn hb Z
   replace X := zn hb X
   clear hb
   go_upto_region 13 with fail
   obtain ⟨HB, Y⟩ := zl (w := w6) (.cells #[.int .i64 yn, .int .i64 yd] 83)
   have LT_Y : Hid (w.heap.size < w6.heap.size ∧ gX < w6.heap.size ∧ w.heap.size ≤ w6.heap.size) := zh ⟨blk_lt Z.out, blk_lt X.out, NN.out.size⟩
   replace NN := zh (Bgo NN.out HB.out)
   replace Z := zn HB Z
   replace X := zn HB X
   clear HB
   generalize (w6.alloc (.cells #[.int .i64 yn, .int .i64 yd] 83)) = W7 at *
   generalize w6.heap.size = gY at *
   by_cases hy0 : ye = 0
   rotate_left
   ·have R0 : Hid (R = (ye, zV)) := zh (by rw [MF.out, if_neg hN, if_neg (by simp), if_pos hy0])
    have qy : (ye != 0) = true := by simpa using hy0
    clear MF V1 V2
    obtain ⟨c_Z_0, f_Z_0, c_Z_1, f_Z_1, c_Z_2, f_Z_2, c_Z_3, f_Z_3, c_Z_4, f_Z_4, c_Z_5, f_Z_5, l_Z⟩ := zfl6 Z
    go_wp2_with fail
    clear c_Z_0 f_Z_0 c_Z_1 f_Z_1 c_Z_2 f_Z_2 c_Z_3 f_Z_3 c_Z_4 f_Z_4 c_Z_5 f_Z_5 l_Z
    generalize hW : ((((((W7.setCell ⟨w.heap.size, 0, none⟩ (.int .i64 0)).setCell ⟨w.heap.size, 1, none⟩ (.int .i64 0)).setCell ⟨w.heap.size, 2, none⟩ (.int .i64 0)).setCell ⟨w.heap.size, 3, none⟩ (.int .i64 0)).setCell ⟨w.heap.size, 4, none⟩ (.int .i64 0)).setCell ⟨w.heap.size, 5, none⟩ (.int .i64 0)) = W8 at *
    replace hW : W7.setCells w.heap.size 0 [.int .i64 0, .int .i64 0, .int .i64 0, .int .i64 0, .int .i64 0, .int .i64 0] = W8 := hW
    replace NN := zh (all_below hW NN.out (by omega))
    replace X := zh (all_other hW X.out (by have := LT_X.out; omega))
    replace Y := zh (all_other hW Y.out (by have := LT_Y.out; omega))
    replace Z := zh (all_set hW Z.out rfl)
    clear hW
    obtain ⟨c_Z_0, c_Z_1, c_Z_2, c_Z_3, c_Z_4, c_Z_5, l_Z⟩ := zcl6 Z
    exact bodyPost_ret (v := .tuple #[.agg #[.int .i64 0, .int .i64 0, .int .i64 0, .int .i64 0, .int .i64 0, .int .i64 0], .int .i64 ye]) (by simp [results, Tryz.results76, go_sem, c_Z_0, c_Z_1, c_Z_2, c_Z_3, c_Z_4, c_Z_5]) rfl ⟨by rw [R0.out]; rfl, NN.out⟩
   subst hy0
   have W1 : Hid (VF xn xd) := zh (by rcases V1.out hN with h | h; exact absurd h (by decide); exact h.2.1)
   have W2 : Hid (VF yn yd) := zh (by rcases V2.out hN with h | h; exact absurd h (by decide); exact h.2.1)
   have MV : Hid (R = match valO xn xd yn yd with | none => (16, zV) | some (a, b, D) => if 1000000 < N then (16, zV) else (0, ⟨(hdV l).t, (hdV l).c, (hdV l).i, (hdV l).j, a, b, D, N⟩)) := zh (by rw [MF.out, if_neg hN, if_neg (by simp), if_neg (by simp)])
   clear V1 V2 MF
   obtain ⟨c_X_0, f_X_0, c_X_1, f_X_1, l_X⟩ := zfl2 X
   obtain ⟨c_Y_0, f_Y_0, c_Y_1, f_Y_1, l_Y⟩ := zfl2 Y
   go_wp2_with fail
   clear c_X_0 f_X_0 c_X_1 f_X_1 l_X c_Y_0 f_Y_0 c_Y_1 f_Y_1 l_Y
   refine (valueOf_calls W1.out W2.out _).mono ?_
   rintro e w9 ⟨⟨va, vb, vD, vok, rfl, hvok⟩, hb⟩
   replace NN := zh (Bgo NN.out hb)
   replace Z := zn hb Z
   replace X := zn hb X
   replace Y := zn hb Y
   clear hb
   go_upto_region 16 with fail
   clear X Y
   obtain ⟨HB, V⟩ := zl (w := w9) (.cells #[.int .i64 va, .int .i64 vb, .int .i64 vD] 40)
   have LT_V : Hid (w.heap.size < w9.heap.size ∧ w.heap.size ≤ w9.heap.size) := zh ⟨blk_lt Z.out, NN.out.size⟩
   replace NN := zh (Bgo NN.out HB.out)
   replace Z := zn HB Z
   clear HB
   generalize (w9.alloc (.cells #[.int .i64 va, .int .i64 vb, .int .i64 vD] 40)) = W9 at *
   generalize w9.heap.size = gV at *
   rcases hvok with ⟨rfl, hvo⟩ | ⟨rfl, hvo⟩
   ·have R0 : Hid (R = (16, zV)) := zh (by rw [MV.out, hvo])
    clear MV hvo
    obtain ⟨c_Z_0, f_Z_0, c_Z_1, f_Z_1, c_Z_2, f_Z_2, c_Z_3, f_Z_3, c_Z_4, f_Z_4, c_Z_5, f_Z_5, l_Z⟩ := zfl6 Z
    go_wp2_with fail
    clear c_Z_0 f_Z_0 c_Z_1 f_Z_1 c_Z_2 f_Z_2 c_Z_3 f_Z_3 c_Z_4 f_Z_4 c_Z_5 f_Z_5 l_Z
    generalize hW : ((((((W9.setCell ⟨w.heap.size, 0, none⟩ (.int .i64 0)).setCell ⟨w.heap.size, 1, none⟩ (.int .i64 0)).setCell ⟨w.heap.size, 2, none⟩ (.int .i64 0)).setCell ⟨w.heap.size, 3, none⟩ (.int .i64 0)).setCell ⟨w.heap.size, 4, none⟩ (.int .i64 0)).setCell ⟨w.heap.size, 5, none⟩ (.int .i64 0)) = W10 at *
    replace hW : W9.setCells w.heap.size 0 [.int .i64 0, .int .i64 0, .int .i64 0, .int .i64 0, .int .i64 0, .int .i64 0] = W10 := hW
    replace NN := zh (all_below hW NN.out (by omega))
    replace V := zh (all_other hW V.out (by have := LT_V.out; omega))
    replace Z := zh (all_set hW Z.out rfl)
    clear hW
    obtain ⟨c_Z_0, c_Z_1, c_Z_2, c_Z_3, c_Z_4, c_Z_5, l_Z⟩ := zcl6 Z
    exact bodyPost_ret (v := .tuple #[.agg #[.int .i64 0, .int .i64 0, .int .i64 0, .int .i64 0, .int .i64 0, .int .i64 0], .int .i64 16]) (by simp [results, Tryz.results76, go_sem, c_Z_0, c_Z_1, c_Z_2, c_Z_3, c_Z_4, c_Z_5]) rfl ⟨by rw [R0.out]; rfl, NN.out⟩
   rw [hvo] at MV
   simp only at MV
   have hW0 : 0 ≤ N := HW.out.1
   by_cases hm : 1000000 < N
   ·have R0 : Hid (R = (16, zV)) := zh (by rw [MV.out, if_pos hm])
    skip
    rw [if_pos hm] at MV
    have CW := zh (fun W => (isWeight_calls N W).mono fun e w' ⟨h, m, hw⟩ => (⟨h, by rw [hw]; exact below_drewN (Below.refl _ _) m⟩ : _ ∧ Below W.heap.size W w'))
    rw [show (decide (0 ≤ N) && decide (N ≤ 1000000)) = false by simp; omega] at CW
    go_wp2_with fail
    refine (CW.out _).mono ?_
    rintro e w11 ⟨rfl, hb⟩
    replace NN := zh (Bgo NN.out hb)
    replace Z := zn hb Z
    replace V := zn hb V
    clear hb
    obtain ⟨c_Z_0, f_Z_0, c_Z_1, f_Z_1, c_Z_2, f_Z_2, c_Z_3, f_Z_3, c_Z_4, f_Z_4, c_Z_5, f_Z_5, l_Z⟩ := zfl6 Z
    go_wp2_with fail
    clear c_Z_0 f_Z_0 c_Z_1 f_Z_1 c_Z_2 f_Z_2 c_Z_3 f_Z_3 c_Z_4 f_Z_4 c_Z_5 f_Z_5 l_Z
    generalize hW : ((((((w11.setCell ⟨w.heap.size, 0, none⟩ (.int .i64 0)).setCell ⟨w.heap.size, 1, none⟩ (.int .i64 0)).setCell ⟨w.heap.size, 2, none⟩ (.int .i64 0)).setCell ⟨w.heap.size, 3, none⟩ (.int .i64 0)).setCell ⟨w.heap.size, 4, none⟩ (.int .i64 0)).setCell ⟨w.heap.size, 5, none⟩ (.int .i64 0)) = W12 at *
    replace hW : w11.setCells w.heap.size 0 [.int .i64 0, .int .i64 0, .int .i64 0, .int .i64 0, .int .i64 0, .int .i64 0] = W12 := hW
    replace NN := zh (all_below hW NN.out (by omega))
    replace V := zh (all_other hW V.out (by have := LT_V.out; omega))
    replace Z := zh (all_set hW Z.out rfl)
    clear hW
    obtain ⟨c_Z_0, c_Z_1, c_Z_2, c_Z_3, c_Z_4, c_Z_5, l_Z⟩ := zcl6 Z
    exact bodyPost_ret (v := .tuple #[.agg #[.int .i64 0, .int .i64 0, .int .i64 0, .int .i64 0, .int .i64 0, .int .i64 0], .int .i64 16]) (by simp [results, Tryz.results76, go_sem, c_Z_0, c_Z_1, c_Z_2, c_Z_3, c_Z_4, c_Z_5]) rfl ⟨by rw [R0.out]; rfl, NN.out⟩
   rw [if_neg hm] at MV
   have CW := zh (fun W => (isWeight_calls N W).mono fun e w' ⟨h, m, hw⟩ => (⟨h, by rw [hw]; exact below_drewN (Below.refl _ _) m⟩ : _ ∧ Below W.heap.size W w'))
   rw [show (decide (0 ≤ N) && decide (N ≤ 1000000)) = true by simp; omega] at CW
   go_wp2_with fail
   refine (CW.out _).mono ?_
   rintro e w13 ⟨rfl, hb⟩
   replace NN := zh (Bgo NN.out hb)
   replace Z := zn hb Z
   replace V := zn hb V
   clear hb
   have A1 := zh (And.intro (Nat.lt_of_lt_of_le BL.out NN.out.size) (And.intro ((NN.out.cell (p := ⟨b, off, none⟩) BL.out).trans A0.out.1) ((NN.out.cell (p := ⟨b, off + 1, none⟩) BL.out).trans A0.out.2)))
   obtain ⟨lb, c0, c1⟩ := A1.out
   have hc0 : 0 < c := by omega
   obtain ⟨c_V_0, f_V_0, c_V_1, f_V_1, c_V_2, f_V_2, l_V⟩ := zfl3 V
   go_upto_region 18 with fail
   clear c_V_0 f_V_0 c_V_1 f_V_1 c_V_2 f_V_2 l_V
   obtain ⟨c_V_0, f_V_0, c_V_1, f_V_1, c_V_2, f_V_2, l_V⟩ := zfl3 V
   obtain ⟨c_Z_0, f_Z_0, c_Z_1, f_Z_1, c_Z_2, f_Z_2, c_Z_3, f_Z_3, c_Z_4, f_Z_4, c_Z_5, f_Z_5, l_Z⟩ := zfl6 Z
   go_region
   clear c_V_0 f_V_0 c_V_1 f_V_1 c_V_2 f_V_2 l_V c_Z_0 f_Z_0 c_Z_1 f_Z_1 c_Z_2 f_Z_2 c_Z_3 f_Z_3 c_Z_4 f_Z_4 c_Z_5 f_Z_5 l_Z
   clear lb c0 c1 A1
   generalize hW : ((((((w13.setCell ⟨w.heap.size, 0, none⟩ (.int .i64 r.i)).setCell ⟨w.heap.size, 1, none⟩ (.int .i64 r.j)).setCell ⟨w.heap.size, 2, none⟩ (.int .i64 va)).setCell ⟨w.heap.size, 3, none⟩ (.int .i64 vb)).setCell ⟨w.heap.size, 4, none⟩ (.int .i64 vD)).setCell ⟨w.heap.size, 5, none⟩ (.int .i64 N)) = W14 at *
   replace hW : w13.setCells w.heap.size 0 [.int .i64 r.i, .int .i64 r.j, .int .i64 va, .int .i64 vb, .int .i64 vD, .int .i64 N] = W14 := hW
   replace NN := zh (all_below hW NN.out (by omega))
   replace V := zh (all_other hW V.out (by have := LT_V.out; omega))
   replace Z := zh (all_set hW Z.out rfl)
   clear hW
   have HDRW := zh (Below.drew (Below.refl W14.heap.size W14))
   replace NN := zh (Bgo NN.out HDRW.out)
   replace Z := zn HDRW Z
   replace V := zn HDRW V
   clear HDRW
   obtain ⟨c_Z_0, f_Z_0, c_Z_1, f_Z_1, c_Z_2, f_Z_2, c_Z_3, f_Z_3, c_Z_4, f_Z_4, c_Z_5, f_Z_5, l_Z⟩ := zfl6 Z
   go_wp2_with fail
   clear c_Z_0 f_Z_0 c_Z_1 f_Z_1 c_Z_2 f_Z_2 c_Z_3 f_Z_3 c_Z_4 f_Z_4 c_Z_5 f_Z_5 l_Z
   obtain ⟨c_Z_0, c_Z_1, c_Z_2, c_Z_3, c_Z_4, c_Z_5, l_Z⟩ := zcl6 Z
   rw [HH.out] at MV
   exact bodyPost_ret (v := .tuple #[.agg #[.int .i64 r.i, .int .i64 r.j, .int .i64 va, .int .i64 vb, .int .i64 vD, .int .i64 N], .int .i64 0]) (by simp [results, Tryz.results76, go_sem, c_Z_0, c_Z_1, c_Z_2, c_Z_3, c_Z_4, c_Z_5]) rfl ⟨by rw [MV.out], NN.out⟩
  replace hlt : k < l.length := by omega
  obtain ⟨b, off, eA, bl, a0, a1, a2, a3, a4, a5⟩ := RV6.at_ HL.out hlt
  have HG := zh (wgt_take hlt)
  have hb1 := wgt_bd (l := l.take k) (fun x hx => HV.out x (List.mem_of_mem_take hx))
  have hb2 := vis_val (show visB (rowAt l k) = true by rw [rowAt_lt hlt]; exact HV.out _ (List.getElem_mem hlt))
  rw [List.length_take] at hb1
  have hb3 : wgt (l.take k) + (rowAt l k).n ≤ 1000000000 := by omega
  have hb4 : 0 ≤ wgt (l.take k) + (rowAt l k).n := by omega
  clear hb1 hb2
  generalize wgt (l.take k) = N0 at *
  generalize rowAt l k = r at *
  subst eA
  replace a0 := (NN.out.cell (p := ⟨b, off + k * 6, none⟩) bl).trans a0
  replace a1 := (NN.out.cell (p := ⟨b, off + k * 6 + 1, none⟩) bl).trans a1
  replace a2 := (NN.out.cell (p := ⟨b, off + k * 6 + 2, none⟩) bl).trans a2
  replace a3 := (NN.out.cell (p := ⟨b, off + k * 6 + 3, none⟩) bl).trans a3
  replace a4 := (NN.out.cell (p := ⟨b, off + k * 6 + 4, none⟩) bl).trans a4
  replace a5 := (NN.out.cell (p := ⟨b, off + k * 6 + 5, none⟩) bl).trans a5
  have lb := Nat.lt_of_lt_of_le bl NN.out.size
  have hkc : k < c := by omega
  have wN : IntKind.i64.wrap (N0 + r.n) = N0 + r.n := IntWalk.i64_in _ (by omega)
  go_wp2_with fail
  exact ⟨⟨k + 1, by omega, by go_num, by rw [HG.out], zh (Bal NN.out _), zh (blk_alloc Z.out _)⟩, by simp [intOf]; omega⟩
theorem Mean_calls {A : Option Addr} {c : Nat} {l : List Vr} {w : World} (hne : l ≠ []) (hb : ∀ r ∈ l, r.i = (hdV l).i ∧ r.j = (hdV l).j) (hl : RV6 w A l) (hc : l.length ≤ c) (hc' : c ≤ 9223372036854775807) (hn : l.length ≤ 200) (hv : ∀ r ∈ l, visB r = true) : Calls Tryz.prog 43 #[.slice A l.length c] w fun e w' => e = .returned (MnV (meanF l)) ∧ Below w.heap.size w w' := by
 have NN := zh (Below.refl w.heap.size w)
 have HL := zh hl
 have HBS := zh hb
 have h0 : 0 < l.length := List.length_pos_iff.2 hne
 have CL := zh (fun W (h : RV6 W A l) => checkList_calls h hc hc' hn hv)
 have CM := zh (fun W (h : RV6 W A l) => mean_calls hne h hc hc' hn hv)
 obtain ⟨R, hR⟩ : ∃ R, meanF l = R := ⟨_, rfl⟩
 rw [hR] at CM ⊢
 clear hl hv hne hR hb
 go_enter Tryz.func43, Tryz.ntmps43
 go_wp2_with fail
 have Z : Hid ((w.alloc (.cells #[.int .i64 0, .int .i64 0, .int .i64 0, .int .i64 0, .int .i64 0, .int .i64 0] 42)).heap[w.heap.size]? = some (.cells #[.int .i64 0, .int .i64 0, .int .i64 0, .int .i64 0, .int .i64 0, .int .i64 0] 42)) := zh (blk_new w _)
 replace NN : Hid (Below w.heap.size w (w.alloc (.cells #[.int .i64 0, .int .i64 0, .int .i64 0, .int .i64 0, .int .i64 0, .int .i64 0] 42))) := zh (Bal NN.out _)
 generalize (w.alloc (.cells #[.int .i64 0, .int .i64 0, .int .i64 0, .int .i64 0, .int .i64 0, .int .i64 0] 42)) = W1 at *
 refine (CL.out _ (Rd.next NN.out HL.out)).mono ?_
 rintro e w2 ⟨rfl, hb⟩
 replace NN := zh (Bgo NN.out hb)
 replace Z := zn hb Z
 clear hb
 have dL : ((l.length : Int) == 0) = false := by rw [beq_eq_false_iff_ne]; omega
 go_wp2_with fail
 clear dL
 go_loopw [19] (fun p wr => ∃ k : Nat, k ≤ l.length ∧ p = .int .i64 k ∧ Hid (Below w.heap.size w wr) ∧ Hid (wr.heap[w.heap.size]? = some (.cells #[.int .i64 0, .int .i64 0, .int .i64 0, .int .i64 0, .int .i64 0, .int .i64 0] 42))) (fun p _ => l.length - (intOf p).toNat)
 case atStart => exact ⟨0, Nat.zero_le _, rfl, NN, Z⟩
 case round =>
  clear NN Z
  obtain ⟨k, hk, rfl, NN, Z⟩ := hrel
  by_cases hlt : l.length ≤ k
  ·have e : k = l.length := by omega
   subst e
   clear hk hlt HBS
   obtain ⟨c_Z_0, f_Z_0, c_Z_1, f_Z_1, c_Z_2, f_Z_2, c_Z_3, f_Z_3, c_Z_4, f_Z_4, c_Z_5, f_Z_5, l_Z⟩ := zfl6 Z
   go_wp2_with fail
   clear c_Z_0 f_Z_0 c_Z_1 f_Z_1 c_Z_2 f_Z_2 c_Z_3 f_Z_3 c_Z_4 f_Z_4 c_Z_5 f_Z_5 l_Z
   refine (CM.out _ (Rd.next NN.out HL.out)).mono ?_
   rintro e w3 ⟨rfl, hb⟩
   replace NN := zh (Bgo NN.out hb)
   replace Z := zn hb Z
   clear hb
   obtain ⟨r0, ⟨t, cc, i, j, re, im, dn, n⟩⟩ := R
   obtain ⟨c_Z_0, f_Z_0, c_Z_1, f_Z_1, c_Z_2, f_Z_2, c_Z_3, f_Z_3, c_Z_4, f_Z_4, c_Z_5, f_Z_5, l_Z⟩ := zfl6 Z
   go_wp2_with fail
   clear c_Z_0 f_Z_0 c_Z_1 f_Z_1 c_Z_2 f_Z_2 c_Z_3 f_Z_3 c_Z_4 f_Z_4 c_Z_5 f_Z_5 l_Z
   generalize hW : ((((((w3.setCell ⟨w.heap.size, 0, none⟩ (.int .i64 i)).setCell ⟨w.heap.size, 1, none⟩ (.int .i64 j)).setCell ⟨w.heap.size, 2, none⟩ (.int .i64 re)).setCell ⟨w.heap.size, 3, none⟩ (.int .i64 im)).setCell ⟨w.heap.size, 4, none⟩ (.int .i64 dn)).setCell ⟨w.heap.size, 5, none⟩ (.int .i64 n)) = W4 at *
   replace hW : w3.setCells w.heap.size 0 [.int .i64 i, .int .i64 j, .int .i64 re, .int .i64 im, .int .i64 dn, .int .i64 n] = W4 := hW
   replace NN := zh (all_below hW NN.out (by omega))
   replace Z := zh (all_set hW Z.out rfl)
   clear hW
   obtain ⟨c_Z_0, c_Z_1, c_Z_2, c_Z_3, c_Z_4, c_Z_5, l_Z⟩ := zcl6 Z
   exact bodyPost_ret (v := .tuple #[.agg #[.int .i64 i, .int .i64 j, .int .i64 re, .int .i64 im, .int .i64 dn, .int .i64 n], .int .i64 r0]) (by simp [results, Tryz.results43, go_sem, c_Z_0, c_Z_1, c_Z_2, c_Z_3, c_Z_4, c_Z_5]) rfl ⟨rfl, NN.out⟩
  replace hlt : k < l.length := by omega
  obtain ⟨b, off, eA, bl, a0, a1, a2, a3, a4, a5⟩ := RV6.at_ HL.out hlt
  obtain ⟨b', off', eA', bl', e0, e1, -⟩ := RV6.at_ HL.out h0
  have hh : (rowAt l k).i = (rowAt l 0).i ∧ (rowAt l k).j = (rowAt l 0).j := by rw [← hd_row h0, rowAt_lt hlt]; exact HBS.out _ (List.getElem_mem hlt)
  rw [← hh.1] at e0
  rw [← hh.2] at e1
  clear hh
  generalize rowAt l k = r at *
  rw [eA] at eA'
  injection eA' with eA'
  injection eA' with eA1 eA2
  subst eA1 eA2
  subst eA
  simp only [Nat.zero_mul, Nat.add_zero] at e0 e1
  replace a0 := (NN.out.cell (p := ⟨b, off + k * 6, none⟩) bl).trans a0
  replace a1 := (NN.out.cell (p := ⟨b, off + k * 6 + 1, none⟩) bl).trans a1
  replace a2 := (NN.out.cell (p := ⟨b, off + k * 6 + 2, none⟩) bl).trans a2
  replace a3 := (NN.out.cell (p := ⟨b, off + k * 6 + 3, none⟩) bl).trans a3
  replace a4 := (NN.out.cell (p := ⟨b, off + k * 6 + 4, none⟩) bl).trans a4
  replace a5 := (NN.out.cell (p := ⟨b, off + k * 6 + 5, none⟩) bl).trans a5
  have lb := Nat.lt_of_lt_of_le bl NN.out.size
  replace e0 := (NN.out.cell (p := ⟨b, off, none⟩) bl).trans e0
  replace e1 := (NN.out.cell (p := ⟨b, off + 1, none⟩) bl).trans e1
  have hkc : k < c := by omega
  have h0c : 0 < c := by omega
  have CC := zh (And.intro lb (And.intro e0 e1))
  go_upto_region 9 with fail
  clear a0 a1 a2 a3 a4 a5 bl bl'
  clear e0 e1 lb
  obtain ⟨HB, VX⟩ := zl (w := wr) (.cells #[.int .i64 r.i, .int .i64 r.j, .int .i64 r.re, .int .i64 r.im, .int .i64 r.dn, .int .i64 r.n] 42)
  have LT_VX : Hid (w.heap.size < wr.heap.size ∧ w.heap.size ≤ wr.heap.size) := zh ⟨blk_lt Z.out, NN.out.size⟩
  replace NN := zh (Bgo NN.out HB.out)
  replace CC := zh (two_next CC.out HB.out)
  replace Z := zn HB Z
  clear HB
  generalize (wr.alloc (.cells #[.int .i64 r.i, .int .i64 r.j, .int .i64 r.re, .int .i64 r.im, .int .i64 r.dn, .int .i64 r.n] 42)) = W5 at *
  generalize wr.heap.size = gX at *
  obtain ⟨c_VX_0, f_VX_0, c_VX_1, f_VX_1, c_VX_2, f_VX_2, c_VX_3, f_VX_3, c_VX_4, f_VX_4, c_VX_5, f_VX_5, l_VX⟩ := zfl6 VX
  obtain ⟨lb, e0, e1⟩ := CC.out
  go_quiet (fail)
  clear lb e0 e1
  clear c_VX_0 f_VX_0 c_VX_1 f_VX_1 c_VX_2 f_VX_2 c_VX_3 f_VX_3 c_VX_4 f_VX_4 c_VX_5 f_VX_5 l_VX
  go_wp2_with fail
  exact ⟨⟨k + 1, by omega, by go_num, zh (below_drewN NN.out _), Z⟩, by simp [intOf]; omega⟩
end Go.Proofs.YtbbnkclajpaghaaGreatDoor
