/- Several texts in one. -/
import Derived.Test.YtbbnkclajpaghaaGreatDoorMF17
set_option maxHeartbeats 8000000
set_option maxRecDepth 100000
set_option linter.unusedVariables false
set_option linter.unusedSimpArgs false
namespace Go.Proofs.YtbbnkclajpaghaaGreatDoor
open Go.ChangeShapes Go.WideShapes Go.ChangeAt Go.RowKit
attribute [local go_sem ↓] Go.wp_at_zero Go.wp_at_succ
theorem one_left {V1 V2 : List Vr} {x : Vr} (h : Srt vkey (V1 ++ V2)) (h1 : ∀ y, V1.getLast? = some y → vkey y < vkey x) (h2 : ∀ y, V2.head? = some y → vkey x ≤ vkey y) : Srt vkey (V1 ++ x :: V2) ∧ FE vkey ([x] ++ (V1 ++ V2)) (V1 ++ x :: V2) := by
 obtain ⟨a1, a2, a3⟩ := Srt.app.1 h
 have L : ∀ y ∈ V1, vkey y < vkey x := fun y hy => by
  obtain ⟨i, hi⟩ := List.mem_iff_getElem?.1 hy
  have hil := (List.getElem?_eq_some_iff.1 hi).1
  have hl : V1[V1.length - 1]? = some V1[V1.length - 1] := List.getElem?_eq_getElem (by omega)
  have k1 := a1.get (show i ≤ V1.length - 1 by omega) hi hl
  have k2 := h1 _ (by rw [List.getLast?_eq_getElem?]; exact hl)
  omega
 have R : ∀ y ∈ V2, vkey x ≤ vkey y := fun y hy => by
  cases V2 with
  | nil => cases hy
  | cons z V3 =>
   have k1 := h2 z rfl
   rcases List.mem_cons.1 hy with rfl | hy
   ·exact k1
   ·have := (List.pairwise_cons.1 a2).1 y hy; omega
 refine ⟨Srt.app.2 ⟨a1, List.pairwise_cons.2 ⟨R, a2⟩, fun y hy z hz => ?_⟩, ?_⟩
 ·rcases List.mem_cons.1 hz with rfl | hz
  ·have := L y hy; omega
  ·exact a3 y hy z hz
 ·rw [← List.append_assoc, show V1 ++ x :: V2 = (V1 ++ [x]) ++ V2 by simp]
  refine FE.app (FE.swap fun p hp q hq => ?_) (FE.refl _)
  rw [List.mem_singleton.1 hp]
  have := L q hq; omega
theorem one_right {U1 U2 : List Vr} {x : Vr} (h : Srt vkey (U1 ++ U2)) (h1 : ∀ y, U1.getLast? = some y → vkey y ≤ vkey x) (h2 : ∀ y, U2.head? = some y → vkey x < vkey y) : Srt vkey (U1 ++ x :: U2) ∧ FE vkey ((U1 ++ U2) ++ [x]) (U1 ++ x :: U2) := by
 obtain ⟨a1, a2, a3⟩ := Srt.app.1 h
 have R : ∀ y ∈ U2, vkey x < vkey y := fun y hy => by
  cases U2 with
  | nil => cases hy
  | cons z V3 =>
   have k1 := h2 z rfl
   rcases List.mem_cons.1 hy with rfl | hy
   ·exact k1
   ·have := (List.pairwise_cons.1 a2).1 y hy; omega
 exact ⟨srt_put h h1 R, fe_put (FE.refl _) R⟩
theorem last_take {V : List Vr} {t : Nat} {y : Vr} (h : (V.take t).getLast? = some y) (ht : t ≤ V.length) : 0 < t ∧ V[t - 1]? = some y := by
 rw [List.getLast?_eq_getElem?, List.length_take, show min t V.length = t by omega, List.getElem?_take] at h
 split at h
 ·rename_i h'; exact ⟨by omega, h⟩
 ·cases h
theorem head_drop {V : List Vr} {t : Nat} {y : Vr} (h : (V.drop t).head? = some y) : V[t]? = some y := by
 rw [List.head?_drop] at h; exact h
theorem half_in {i j : Nat} (h : i < j) : i ≤ (i + j) / 2 ∧ (i + j) / 2 < j := by omega
theorem sym_one {g n c a m b : Nat} {P V Q : List Vr} {x : Vr} {w : World} (hn : (P ++ [x] ++ V ++ Q).length = n) (hx : RW w g (P ++ [x] ++ V ++ Q)) (hnc : n ≤ c) (hc : c ≤ 9223372036854775807) (hb9 : n ≤ 100000) (ha : P.length = a) (hm : a + 1 = m) (hb : m + V.length = b) (hV : 0 < V.length) (hv : ∀ r ∈ V, rowB r = true) (hvx : rowB x = true) (hs : Srt vkey V) :
  Calls Tryz.prog 100 #[.slice (some ⟨g, 0, none⟩) n c, .int .i64 a, .int .i64 m, .int .i64 b, CmpV] w fun e w' => (∃ v, e = .returned v) ∧ w.grownBy w' (some g) ∧ ∃ S, RW w' g (P ++ S ++ Q) ∧ Srt vkey S ∧ FE vkey ([x] ++ V) S ∧ S.length = ([x] ++ V).length := by
 have NN := zh (grown_refl w (some g))
 have HX := zh hx
 have HV := zh hv
 have HVX := zh hvx
 have HS := zh hs
 have HN := zh hn
 clear hx hv hvx hs
 have hln : a + 1 + V.length + Q.length = n := by simp only [List.length_append, List.length_cons, List.length_nil] at hn; omega
 have w1 : IntKind.i64.wrap ((m : Int) - (a : Int)) = 1 := by rw [IntWalk.i64_in _ (by omega)]; omega
 have GX : Hid ((P ++ [x] ++ V ++ Q)[a]? = some x) := zh (by rw [show P ++ [x] ++ V ++ Q = P ++ x :: (V ++ Q) by simp, List.getElem?_append_right (by omega), show a - P.length = 0 by omega]; rfl)
 have GV : Hid (∀ k y, V[k]? = some y → (P ++ [x] ++ V ++ Q)[m + k]? = some y) := zh (fun k y h => by
  have hk := (List.getElem?_eq_some_iff.1 h).1
  rw [List.append_assoc, List.getElem?_append_right (by simp; omega), List.getElem?_append_left (by simp; omega)]
  simp only [List.length_append, List.length_cons, List.length_nil]
  rw [show m + k - (P.length + (0 + 1)) = k by omega]; exact h)
 clear hn
 go_enter Tryz.func100, Tryz.ntmps100
 go_wp2_with fail
 clear w1
 obtain ⟨Ls, hLs⟩ : ∃ Ls, P ++ [x] ++ V ++ Q = Ls := ⟨_, rfl⟩
 rw [hLs] at GX GV HX HN
 have HLS := zh hLs
 clear hLs
 go_loopw [10, 11] (fun p q wr => ∃ (i j : Nat), p = .int .i64 (i : Int) ∧ q = .int .i64 (j : Int) ∧ m ≤ i ∧ i ≤ j ∧ j ≤ b ∧ Hid (m < i → ∀ y, V[i - 1 - m]? = some y → vkey y < vkey x) ∧ Hid (j < b → ∀ y, V[j - m]? = some y → vkey x ≤ vkey y) ∧ Hid (RW wr g Ls) ∧ Hid (w.grownBy wr (some g))) (fun p q _ => (intOf q).toNat - (intOf p).toNat)
 case atStart => exact ⟨m, b, rfl, rfl, Nat.le_refl _, by omega, Nat.le_refl _, zh (by omega), zh (by omega), HX, NN⟩
 case round =>
  clear NN HX
  obtain ⟨i, j, rfl, rfl, hmi, hij, hjb, HL, HH, HR, NG⟩ := hrel
  by_cases hlt : i < j
  ·obtain ⟨s, hs⟩ : ∃ s, i + j = s := ⟨_, rfl⟩
   obtain ⟨h, hh⟩ : ∃ h, s / 2 = h := ⟨_, rfl⟩
   have ws : IntKind.i64.wrap ((i : Int) + (j : Int)) = (s : Int) := by rw [IntWalk.i64_in _ (by omega)]; omega
   have hd9 : (s : Int) / 2 = (h : Int) := by omega
   obtain ⟨h1, h2⟩ := half_in hlt
   rw [hs, hh] at h1 h2
   clear hs hh
   have wh : IntKind.i64.wrap ((h : Int) + 1) = (h : Int) + 1 := IntWalk.i64_in _ (by omega)
   obtain ⟨y, hy⟩ : ∃ y, V[h - m]? = some y := ⟨_, List.getElem?_eq_getElem (by omega)⟩
   have HXh : Hid (Ls[h]? = some y) := zh (by have h9 := GV.out _ _ hy; rw [show m + (h - m) = h by omega] at h9; exact h9)
   have KX := rcmp_key (HV.out y (List.mem_of_getElem? hy)) HVX.out
   have HY := zh hy
   clear hy
   obtain ⟨q, hq⟩ : ∃ q, rcmp y x = q := ⟨_, rfl⟩
   have CC : Hid (∀ W : World, Calls Tryz.prog 42 #[Rwv y, Rwv x] W fun e w' => e = .returned (.int .i64 q) ∧ Below W.heap.size W w') := zh (fun W => by rw [← hq]; exact compare_calls y x W)
   rw [hq] at KX
   clear hq
   have hhn : h < n := by omega
   have han : a < n := by omega
   by_cases hlt9 : vkey y < vkey x
   ·have d9 : decide (q < 0) = true := decide_eq_true (by rw [KX]; exact kcmp_lt.2 hlt9)
    clear KX
    go_upto_region 5 with fail
    have HDRW := zh (Below.drew (Below.refl wr.heap.size wr))
    replace NG := zh (grown_trans NG.out (grown_of_below HDRW.out _))
    replace HR := zh (RW.next HR.out HDRW.out)
    clear HDRW
    have HAL : Hid (∀ kx9 : Nat, GK [(4, g, .cells (vrc Ls).toArray 67), (8, g, .cells (vrc Ls).toArray 67)] kx9 wr.drew) := zh (fun kx9 => fun px9 hp e => by
     simp only [List.mem_cons, List.not_mem_nil, or_false] at hp
     rcases hp with rfl | rfl
     ·exact HR.out
     ·exact HR.out
    )
    refine region_G (S := GK [(4, g, .cells (vrc Ls).toArray 67), (8, g, .cells (vrc Ls).toArray 67)]) (by kernel_rfl) ?_
    refine tP 0 (CmpV) (some 40) rfl ?_ ?_
    ·intro X hX
     clear hX
     go_simp
     all_goals (first | (intro h9; exfalso; omega) | omega)
    try simp only [Act.put, zA, zB, zC]
    refine tP 1 (.slice (some ⟨g, 0, none⟩) n c) (some 41) rfl ?_ ?_
    ·intro X hX
     clear hX
     go_simp
     all_goals (first | (intro h9; exfalso; omega) | omega)
    try simp only [Act.put, zA, zB, zC]
    refine tP 2 (.int .i64 (h : Int)) (some 42) rfl ?_ ?_
    ·intro X hX
     clear hX
     go_simp
     all_goals (first | (intro h9; exfalso; omega) | omega)
    try simp only [Act.put, zA, zB, zC]
    refine tP 3 (.pointer (some ⟨g, h * 8, none⟩)) (some 43) rfl ?_ ?_
    ·intro X hX
     clear hX
     go_simp
     all_goals (first | (intro h9; exfalso; omega) | omega)
    try simp only [Act.put, zA, zB, zC]
    refine tG 4 (.agg #[.int .i64 y.t, .int .i64 y.c, .int .i64 y.i, .int .i64 y.j, .int .i64 y.re, .int .i64 y.im, .int .i64 y.dn, .int .i64 y.n]) (some 44) (GK.grow _) rfl (YieldsIf.toG (Or.inl ⟨by rfl, ?_⟩)) (HAL.out 4) ?_
    ·intro X hX
     have hh := hX (4, g, .cells (vrc Ls).toArray 67) (List.Mem.head _) rfl
     have hh0 := (RW.cell (show RW _ g Ls from hh) HXh.out 0 _ rfl)
     simp only [Nat.add_zero] at hh0
     have hh1 := (RW.cell (show RW _ g Ls from hh) HXh.out 1 _ rfl)
     have hh2 := (RW.cell (show RW _ g Ls from hh) HXh.out 2 _ rfl)
     have hh3 := (RW.cell (show RW _ g Ls from hh) HXh.out 3 _ rfl)
     have hh4 := (RW.cell (show RW _ g Ls from hh) HXh.out 4 _ rfl)
     have hh5 := (RW.cell (show RW _ g Ls from hh) HXh.out 5 _ rfl)
     have hh6 := (RW.cell (show RW _ g Ls from hh) HXh.out 6 _ rfl)
     have hh7 := (RW.cell (show RW _ g Ls from hh) HXh.out 7 _ rfl)
     have hhl := blk_lt hh
     clear hh
     clear hX
     go_simp
     all_goals (first | (intro h9; exfalso; omega) | omega)
    try simp only [Act.put, zA, zB, zC]
    refine tP 5 (.slice (some ⟨g, 0, none⟩) n c) (some 45) rfl ?_ ?_
    ·intro X hX
     clear hX
     go_simp
     all_goals (first | (intro h9; exfalso; omega) | omega)
    try simp only [Act.put, zA, zB, zC]
    refine tP 6 (.int .i64 (a : Int)) (some 46) rfl ?_ ?_
    ·intro X hX
     clear hX
     go_simp
     all_goals (first | (intro h9; exfalso; omega) | omega)
    try simp only [Act.put, zA, zB, zC]
    refine tP 7 (.pointer (some ⟨g, a * 8, none⟩)) (some 47) rfl ?_ ?_
    ·intro X hX
     clear hX
     go_simp
     all_goals (first | (intro h9; exfalso; omega) | omega)
    try simp only [Act.put, zA, zB, zC]
    refine tG 8 (.agg #[.int .i64 x.t, .int .i64 x.c, .int .i64 x.i, .int .i64 x.j, .int .i64 x.re, .int .i64 x.im, .int .i64 x.dn, .int .i64 x.n]) (some 48) (GK.grow _) rfl (YieldsIf.toG (Or.inl ⟨by rfl, ?_⟩)) (HAL.out 8) ?_
    ·intro X hX
     have hh := hX (8, g, .cells (vrc Ls).toArray 67) (List.Mem.tail _ (List.Mem.head _)) rfl
     have hh0 := (RW.cell (show RW _ g Ls from hh) GX.out 0 _ rfl)
     simp only [Nat.add_zero] at hh0
     have hh1 := (RW.cell (show RW _ g Ls from hh) GX.out 1 _ rfl)
     have hh2 := (RW.cell (show RW _ g Ls from hh) GX.out 2 _ rfl)
     have hh3 := (RW.cell (show RW _ g Ls from hh) GX.out 3 _ rfl)
     have hh4 := (RW.cell (show RW _ g Ls from hh) GX.out 4 _ rfl)
     have hh5 := (RW.cell (show RW _ g Ls from hh) GX.out 5 _ rfl)
     have hh6 := (RW.cell (show RW _ g Ls from hh) GX.out 6 _ rfl)
     have hh7 := (RW.cell (show RW _ g Ls from hh) GX.out 7 _ rfl)
     have hhl := blk_lt hh
     clear hh
     clear hX
     go_simp
     all_goals (first | (intro h9; exfalso; omega) | omega)
    try simp only [Act.put, zA, zB, zC]
    have CFn : ∀ (args : Array Value) (W : World), Sem.run Tryz.prog (callFunc 42 args) W = .ok (.enter 42 args) W := fun _ _ => by kernel_rfl
    refine tG 9 (.int .i64 q) (some 49) (GK.grow _) rfl (yieldsG_call 42 #[.agg #[.int .i64 y.t, .int .i64 y.c, .int .i64 y.i, .int .i64 y.j, .int .i64 y.re, .int .i64 y.im, .int .i64 y.dn, .int .i64 y.n], .agg #[.int .i64 x.t, .int .i64 x.c, .int .i64 x.i, .int .i64 x.j, .int .i64 x.re, .int .i64 x.im, .int .i64 x.dn, .int .i64 x.n]] (by rfl) ?_ (fun X hS => CC.out X)) (GK.drop (by simp)) ?_
    ·intro X hX
     clear hX
     go_simp
    clear CFn
    try simp only [Act.put, zA, zB, zC]
    refine tP 10 (.bool true) (some 50) rfl ?_ ?_
    ·intro X hX
     clear hX
     go_simp
     all_goals (first | (intro h9; exfalso; omega) | omega)
    try simp only [Act.put, zA, zB, zC]
    clear HAL
    refine done_G (by kernel_rfl) (fun X1 hX => ?_) _
    replace NG := zh (grown_trans NG.out (grown_of_below hX _))
    replace HR := zh (RW.next HR.out hX)
    clear hX
    go_wp2_with fail
    go_roundw
    case rel => exact ⟨h + 1, j, by go_num, rfl, by omega, by omega, hjb, zh (fun _ z hz => by rw [show h + 1 - 1 - m = h - m by omega, HY.out] at hz; injection hz with hz; rw [← hz]; exact hlt9), HH, HR, NG⟩
    case measure => simp [intOf]; omega
   ·have d9 : decide (q < 0) = false := decide_eq_false (by rw [KX]; exact fun h => hlt9 (kcmp_lt.1 h))
    clear KX
    go_upto_region 5 with fail
    have HDRW := zh (Below.drew (Below.refl wr.heap.size wr))
    replace NG := zh (grown_trans NG.out (grown_of_below HDRW.out _))
    replace HR := zh (RW.next HR.out HDRW.out)
    clear HDRW
    have HAL : Hid (∀ kx9 : Nat, GK [(4, g, .cells (vrc Ls).toArray 67), (8, g, .cells (vrc Ls).toArray 67)] kx9 wr.drew) := zh (fun kx9 => fun px9 hp e => by
     simp only [List.mem_cons, List.not_mem_nil, or_false] at hp
     rcases hp with rfl | rfl
     ·exact HR.out
     ·exact HR.out
    )
    refine region_G (S := GK [(4, g, .cells (vrc Ls).toArray 67), (8, g, .cells (vrc Ls).toArray 67)]) (by kernel_rfl) ?_
    refine tP 0 (CmpV) (some 40) rfl ?_ ?_
    ·intro X hX
     clear hX
     go_simp
     all_goals (first | (intro h9; exfalso; omega) | omega)
    try simp only [Act.put, zA, zB, zC]
    refine tP 1 (.slice (some ⟨g, 0, none⟩) n c) (some 41) rfl ?_ ?_
    ·intro X hX
     clear hX
     go_simp
     all_goals (first | (intro h9; exfalso; omega) | omega)
    try simp only [Act.put, zA, zB, zC]
    refine tP 2 (.int .i64 (h : Int)) (some 42) rfl ?_ ?_
    ·intro X hX
     clear hX
     go_simp
     all_goals (first | (intro h9; exfalso; omega) | omega)
    try simp only [Act.put, zA, zB, zC]
    refine tP 3 (.pointer (some ⟨g, h * 8, none⟩)) (some 43) rfl ?_ ?_
    ·intro X hX
     clear hX
     go_simp
     all_goals (first | (intro h9; exfalso; omega) | omega)
    try simp only [Act.put, zA, zB, zC]
    refine tG 4 (.agg #[.int .i64 y.t, .int .i64 y.c, .int .i64 y.i, .int .i64 y.j, .int .i64 y.re, .int .i64 y.im, .int .i64 y.dn, .int .i64 y.n]) (some 44) (GK.grow _) rfl (YieldsIf.toG (Or.inl ⟨by rfl, ?_⟩)) (HAL.out 4) ?_
    ·intro X hX
     have hh := hX (4, g, .cells (vrc Ls).toArray 67) (List.Mem.head _) rfl
     have hh0 := (RW.cell (show RW _ g Ls from hh) HXh.out 0 _ rfl)
     simp only [Nat.add_zero] at hh0
     have hh1 := (RW.cell (show RW _ g Ls from hh) HXh.out 1 _ rfl)
     have hh2 := (RW.cell (show RW _ g Ls from hh) HXh.out 2 _ rfl)
     have hh3 := (RW.cell (show RW _ g Ls from hh) HXh.out 3 _ rfl)
     have hh4 := (RW.cell (show RW _ g Ls from hh) HXh.out 4 _ rfl)
     have hh5 := (RW.cell (show RW _ g Ls from hh) HXh.out 5 _ rfl)
     have hh6 := (RW.cell (show RW _ g Ls from hh) HXh.out 6 _ rfl)
     have hh7 := (RW.cell (show RW _ g Ls from hh) HXh.out 7 _ rfl)
     have hhl := blk_lt hh
     clear hh
     clear hX
     go_simp
     all_goals (first | (intro h9; exfalso; omega) | omega)
    try simp only [Act.put, zA, zB, zC]
    refine tP 5 (.slice (some ⟨g, 0, none⟩) n c) (some 45) rfl ?_ ?_
    ·intro X hX
     clear hX
     go_simp
     all_goals (first | (intro h9; exfalso; omega) | omega)
    try simp only [Act.put, zA, zB, zC]
    refine tP 6 (.int .i64 (a : Int)) (some 46) rfl ?_ ?_
    ·intro X hX
     clear hX
     go_simp
     all_goals (first | (intro h9; exfalso; omega) | omega)
    try simp only [Act.put, zA, zB, zC]
    refine tP 7 (.pointer (some ⟨g, a * 8, none⟩)) (some 47) rfl ?_ ?_
    ·intro X hX
     clear hX
     go_simp
     all_goals (first | (intro h9; exfalso; omega) | omega)
    try simp only [Act.put, zA, zB, zC]
    refine tG 8 (.agg #[.int .i64 x.t, .int .i64 x.c, .int .i64 x.i, .int .i64 x.j, .int .i64 x.re, .int .i64 x.im, .int .i64 x.dn, .int .i64 x.n]) (some 48) (GK.grow _) rfl (YieldsIf.toG (Or.inl ⟨by rfl, ?_⟩)) (HAL.out 8) ?_
    ·intro X hX
     have hh := hX (8, g, .cells (vrc Ls).toArray 67) (List.Mem.tail _ (List.Mem.head _)) rfl
     have hh0 := (RW.cell (show RW _ g Ls from hh) GX.out 0 _ rfl)
     simp only [Nat.add_zero] at hh0
     have hh1 := (RW.cell (show RW _ g Ls from hh) GX.out 1 _ rfl)
     have hh2 := (RW.cell (show RW _ g Ls from hh) GX.out 2 _ rfl)
     have hh3 := (RW.cell (show RW _ g Ls from hh) GX.out 3 _ rfl)
     have hh4 := (RW.cell (show RW _ g Ls from hh) GX.out 4 _ rfl)
     have hh5 := (RW.cell (show RW _ g Ls from hh) GX.out 5 _ rfl)
     have hh6 := (RW.cell (show RW _ g Ls from hh) GX.out 6 _ rfl)
     have hh7 := (RW.cell (show RW _ g Ls from hh) GX.out 7 _ rfl)
     have hhl := blk_lt hh
     clear hh
     clear hX
     go_simp
     all_goals (first | (intro h9; exfalso; omega) | omega)
    try simp only [Act.put, zA, zB, zC]
    have CFn : ∀ (args : Array Value) (W : World), Sem.run Tryz.prog (callFunc 42 args) W = .ok (.enter 42 args) W := fun _ _ => by kernel_rfl
    refine tG 9 (.int .i64 q) (some 49) (GK.grow _) rfl (yieldsG_call 42 #[.agg #[.int .i64 y.t, .int .i64 y.c, .int .i64 y.i, .int .i64 y.j, .int .i64 y.re, .int .i64 y.im, .int .i64 y.dn, .int .i64 y.n], .agg #[.int .i64 x.t, .int .i64 x.c, .int .i64 x.i, .int .i64 x.j, .int .i64 x.re, .int .i64 x.im, .int .i64 x.dn, .int .i64 x.n]] (by rfl) ?_ (fun X hS => CC.out X)) (GK.drop (by simp)) ?_
    ·intro X hX
     clear hX
     go_simp
    clear CFn
    try simp only [Act.put, zA, zB, zC]
    refine tP 10 (.bool false) (some 50) rfl ?_ ?_
    ·intro X hX
     clear hX
     go_simp
     all_goals (first | (intro h9; exfalso; omega) | omega)
    try simp only [Act.put, zA, zB, zC]
    clear HAL
    refine done_G (by kernel_rfl) (fun X2 hX => ?_) _
    replace NG := zh (grown_trans NG.out (grown_of_below hX _))
    replace HR := zh (RW.next HR.out hX)
    clear hX
    go_wp2_with fail
    go_roundw
    case rel => exact ⟨i, h, rfl, rfl, hmi, by omega, by omega, HL, zh (fun _ z hz => by rw [HY.out] at hz; injection hz with hz; rw [← hz]; omega), HR, NG⟩
    case measure => simp [intOf]; omega
  ·obtain rfl : i = j := by omega
   obtain ⟨t, ht⟩ : ∃ t, i = m + t := ⟨i - m, by omega⟩
   obtain ⟨e9, he9⟩ : ∃ e9, a + t = e9 := ⟨_, rfl⟩
   have htl : t ≤ V.length := by omega
   have SL : Hid (∀ y, (V.take t).getLast? = some y → vkey y < vkey x) := zh (fun y hy => by obtain ⟨t0, h9⟩ := last_take hy htl; exact HL.out (by omega) y (by rw [show i - 1 - m = t - 1 by omega]; exact h9))
   have SR : Hid (∀ y, (V.drop t).head? = some y → vkey x ≤ vkey y) := zh (fun y hy => by have h9 := head_drop hy; have hl := (List.getElem?_eq_some_iff.1 h9).1; exact HH.out (by omega) y (by rw [show i - m = t by omega]; exact h9))
   have wi : IntKind.i64.wrap ((i : Int) - 1) = (e9 : Int) := by rw [IntWalk.i64_in _ (by omega)]; omega
   have HTI := zh ht
   have HE9 := zh he9
   clear ht he9
   have HR0 : Hid (RW wr g (P ++ [] ++ x :: V ++ Q)) := zh (by have h9 := HR.out; rw [← HLS.out] at h9; simpa using h9)
   have HLN : Hid ((P ++ [x] ++ V ++ Q).length = n) := zh (by rw [HLS.out]; exact HN.out)
   clear HR GX GV HLS HN HL HH
   obtain ⟨w5, hw5⟩ : ∃ z, z = wr := ⟨_, rfl⟩
   subst hw5
   go_wp2_with fail
   go_loopw [13] (fun p wr => ∃ (V1 V2 : List Vr), p = .int .i64 ((a + V1.length : Nat) : Int) ∧ Hid (V = V1 ++ V2) ∧ V1.length ≤ t ∧ Hid (RW wr g (P ++ V1 ++ x :: V2 ++ Q)) ∧ Hid (w.grownBy wr (some g))) (fun p _ => e9 - (intOf p).toNat)
   case atStart => exact ⟨[], V, by simp, zh rfl, Nat.zero_le _, HR0, NG⟩
   case round =>
    clear HR0 NG
    obtain ⟨V1, V2, rfl, HVV, hl1, HR, NG⟩ := hrel
    have hlv : V.length = V1.length + V2.length := by rw [HVV.out, List.length_append]
    by_cases hlt2 : V1.length < t
    ·obtain ⟨v, V3, rfl⟩ : ∃ v V3, V2 = v :: V3 := by cases V2 with | nil => (exfalso; simp only [List.length_nil] at hlv; omega) | cons v V3 => exact ⟨v, V3, rfl⟩
     simp only [List.length_cons] at hlv
     have hln9 : (P ++ V1 ++ x :: (v :: V3) ++ Q).length = n := by simp only [List.length_append, List.length_cons] at *; omega
     obtain ⟨p, hp⟩ : ∃ p, a + V1.length = p := ⟨_, rfl⟩
     rw [hp]
     obtain ⟨r, hr⟩ : ∃ r, p + 1 = r := ⟨_, rfl⟩
     have wr9 : IntKind.i64.wrap ((p : Int) + 1) = (r : Int) := by rw [IntWalk.i64_in _ (by omega)]; omega
     have hpn : p < n := by omega
     have hrn : r < n := by omega
     have hpt : p < e9 := by have := HE9.out; omega
     have EL : P ++ V1 ++ x :: (v :: V3) ++ Q = (P ++ V1) ++ x :: ([] ++ v :: (V3 ++ Q)) := by simp
     rw [EL] at HR
     have hA : (P ++ V1).length = p := by rw [List.length_append]; omega
     have HXu := zh (at2a (A := P ++ V1) (B := []) (C := V3 ++ Q) (u := x) (v := v) hA)
     have HXv := zh (at2b (A := P ++ V1) (B := []) (C := V3 ++ Q) (u := x) (v := v) (j := r) (by rw [hA]; simp; omega))
     have HSW := zh (swap2 (A := P ++ V1) (B := []) (C := V3 ++ Q) (u := x) (v := v) hA (j := r) (by rw [hA]; simp; omega))
     have HSX := zh (swap2' (A := P ++ V1) (B := []) (C := V3 ++ Q) (u := x) (v := v) hA (j := r) (by rw [hA]; simp; omega))
     have EN : (P ++ V1) ++ v :: ([] ++ x :: (V3 ++ Q)) = P ++ (V1 ++ [v]) ++ x :: V3 ++ Q := by simp
     have hLn : ((P ++ V1) ++ x :: ([] ++ v :: (V3 ++ Q))).length = n := by rw [← EL]; exact hln9
     obtain ⟨Ls, hLs⟩ : ∃ Ls, (P ++ V1) ++ x :: ([] ++ v :: (V3 ++ Q)) = Ls := ⟨_, rfl⟩
     rw [hLs] at HR HXu HXv HSW HSX hLn
     rw [EN] at HSW HSX
     clear EN EL hA hLs
     go_upto_region 11 with fail
     have HDRW := zh (Below.drew (Below.refl wr.heap.size wr))
     replace NG := zh (grown_trans NG.out (grown_of_below HDRW.out _))
     replace HR := zh (RW.next HR.out HDRW.out)
     clear HDRW
     have HAL : Hid (∀ kx9 : Nat, GK [(9, g, .cells (vrc Ls).toArray 67), (13, g, .cells (vrc Ls).toArray 67)] kx9 wr.drew) := zh (fun kx9 => fun px9 hp e => by
      simp only [List.mem_cons, List.not_mem_nil, or_false] at hp
      rcases hp with rfl | rfl
      ·exact HR.out
      ·exact HR.out
     )
     refine region_G (S := GK [(9, g, .cells (vrc Ls).toArray 67), (13, g, .cells (vrc Ls).toArray 67)]) (by kernel_rfl) ?_
     refine tP 0 (.slice (some ⟨g, 0, none⟩) n c) (some 61) rfl ?_ ?_
     ·intro X hX
      clear hX
      go_simp
      all_goals (first | (intro h9; exfalso; omega) | omega)
     try simp only [Act.put, zA, zB, zC]
     refine tP 1 (.int .i64 (p : Int)) (some 62) rfl ?_ ?_
     ·intro X hX
      clear hX
      go_simp
      all_goals (first | (intro h9; exfalso; omega) | omega)
     try simp only [Act.put, zA, zB, zC]
     refine tP 2 (.slice (some ⟨g, 0, none⟩) n c) (some 63) rfl ?_ ?_
     ·intro X hX
      clear hX
      go_simp
      all_goals (first | (intro h9; exfalso; omega) | omega)
     try simp only [Act.put, zA, zB, zC]
     refine tP 3 (.int .i64 (p : Int)) (some 64) rfl ?_ ?_
     ·intro X hX
      clear hX
      go_simp
      all_goals (first | (intro h9; exfalso; omega) | omega)
     try simp only [Act.put, zA, zB, zC]
     refine tP 4 (.int .i64 (r : Int)) (some 65) rfl ?_ ?_
     ·intro X hX
      clear hX
      go_simp
      all_goals (first | (intro h9; exfalso; omega) | omega)
     try simp only [Act.put, zA, zB, zC]
     refine tP 5 (.slice (some ⟨g, 0, none⟩) n c) (some 66) rfl ?_ ?_
     ·intro X hX
      clear hX
      go_simp
      all_goals (first | (intro h9; exfalso; omega) | omega)
     try simp only [Act.put, zA, zB, zC]
     refine tP 6 (.int .i64 (p : Int)) (some 67) rfl ?_ ?_
     ·intro X hX
      clear hX
      go_simp
      all_goals (first | (intro h9; exfalso; omega) | omega)
     try simp only [Act.put, zA, zB, zC]
     refine tP 7 (.int .i64 (r : Int)) (some 68) rfl ?_ ?_
     ·intro X hX
      clear hX
      go_simp
      all_goals (first | (intro h9; exfalso; omega) | omega)
     try simp only [Act.put, zA, zB, zC]
     refine tP 8 (.pointer (some ⟨g, r * 8, none⟩)) (some 69) rfl ?_ ?_
     ·intro X hX
      clear hX
      go_simp
      all_goals (first | (intro h9; exfalso; omega) | omega)
     try simp only [Act.put, zA, zB, zC]
     refine tG 9 (.agg #[.int .i64 v.t, .int .i64 v.c, .int .i64 v.i, .int .i64 v.j, .int .i64 v.re, .int .i64 v.im, .int .i64 v.dn, .int .i64 v.n]) (some 70) (GK.grow _) rfl (YieldsIf.toG (Or.inl ⟨by rfl, ?_⟩)) (HAL.out 9) ?_
     ·intro X hX
      have hh := hX (9, g, .cells (vrc Ls).toArray 67) (List.Mem.head _) rfl
      have hh0 := (RW.cell (show RW _ g Ls from hh) HXv.out 0 _ rfl)
      simp only [Nat.add_zero] at hh0
      have hh1 := (RW.cell (show RW _ g Ls from hh) HXv.out 1 _ rfl)
      have hh2 := (RW.cell (show RW _ g Ls from hh) HXv.out 2 _ rfl)
      have hh3 := (RW.cell (show RW _ g Ls from hh) HXv.out 3 _ rfl)
      have hh4 := (RW.cell (show RW _ g Ls from hh) HXv.out 4 _ rfl)
      have hh5 := (RW.cell (show RW _ g Ls from hh) HXv.out 5 _ rfl)
      have hh6 := (RW.cell (show RW _ g Ls from hh) HXv.out 6 _ rfl)
      have hh7 := (RW.cell (show RW _ g Ls from hh) HXv.out 7 _ rfl)
      have hhl := blk_lt hh
      clear hh
      clear hX
      go_simp
      all_goals (first | (intro h9; exfalso; omega) | omega)
     try simp only [Act.put, zA, zB, zC]
     refine tP 10 (.slice (some ⟨g, 0, none⟩) n c) (some 71) rfl ?_ ?_
     ·intro X hX
      clear hX
      go_simp
      all_goals (first | (intro h9; exfalso; omega) | omega)
     try simp only [Act.put, zA, zB, zC]
     refine tP 11 (.int .i64 (p : Int)) (some 72) rfl ?_ ?_
     ·intro X hX
      clear hX
      go_simp
      all_goals (first | (intro h9; exfalso; omega) | omega)
     try simp only [Act.put, zA, zB, zC]
     refine tP 12 (.pointer (some ⟨g, p * 8, none⟩)) (some 73) rfl ?_ ?_
     ·intro X hX
      clear hX
      go_simp
      all_goals (first | (intro h9; exfalso; omega) | omega)
     try simp only [Act.put, zA, zB, zC]
     refine tG 13 (.agg #[.int .i64 x.t, .int .i64 x.c, .int .i64 x.i, .int .i64 x.j, .int .i64 x.re, .int .i64 x.im, .int .i64 x.dn, .int .i64 x.n]) (some 74) (GK.grow _) rfl (YieldsIf.toG (Or.inl ⟨by rfl, ?_⟩)) (HAL.out 13) ?_
     ·intro X hX
      have hh := hX (13, g, .cells (vrc Ls).toArray 67) (List.Mem.tail _ (List.Mem.head _)) rfl
      have hh0 := (RW.cell (show RW _ g Ls from hh) HXu.out 0 _ rfl)
      simp only [Nat.add_zero] at hh0
      have hh1 := (RW.cell (show RW _ g Ls from hh) HXu.out 1 _ rfl)
      have hh2 := (RW.cell (show RW _ g Ls from hh) HXu.out 2 _ rfl)
      have hh3 := (RW.cell (show RW _ g Ls from hh) HXu.out 3 _ rfl)
      have hh4 := (RW.cell (show RW _ g Ls from hh) HXu.out 4 _ rfl)
      have hh5 := (RW.cell (show RW _ g Ls from hh) HXu.out 5 _ rfl)
      have hh6 := (RW.cell (show RW _ g Ls from hh) HXu.out 6 _ rfl)
      have hh7 := (RW.cell (show RW _ g Ls from hh) HXu.out 7 _ rfl)
      have hhl := blk_lt hh
      clear hh
      clear hX
      go_simp
      all_goals (first | (intro h9; exfalso; omega) | omega)
     try simp only [Act.put, zA, zB, zC]
     refine tP 14 (.pointer (some ⟨g, p * 8, none⟩)) (some 75) rfl ?_ ?_
     ·intro X hX
      clear hX
      go_simp
      all_goals (first | (intro h9; exfalso; omega) | omega)
     try simp only [Act.put, zA, zB, zC]
     refine only_G 15 (by kernel_rfl) rfl (fun X3 hX K' hK' => ?_)
     replace NG := zh (grown_trans NG.out (grown_of_below hX _))
     replace HR := zh (RW.next HR.out hX)
     replace HAL := zh (fun kx9 => GK.grow _ _ _ _ (HAL.out kx9) hX)
     clear hX
     rw [if_pos (by rfl)]
     refine wp_store_row _ _ rfl g (p) _ v rfl rfl HR.out (by first | (simp only [List.length_set]; omega) | omega) ?_
     refine hK'.out _ _ (fun kk hk hS => ?_) ?_
     ·have HN : ∀ px9 ∈ ([(9, g, .cells (vrc Ls).toArray 67), (13, g, .cells (vrc Ls).toArray 67)] : List (Nat × Nat × Obj)), px9.1 = kk → px9.2.1 ≠ g := fun px9 hp e => by
       simp only [List.mem_cons, List.not_mem_nil, or_false] at hp
       rcases hp with rfl | rfl
       ·subst e; exact bfl (by kernel_rfl) hk
       ·subst e; exact bfl (by kernel_rfl) hk
      exact GK.setCells hS HN _ _
     clear hK' K'
     try simp only [Act.put, zA, zB, zC]
     clear HAL
     replace NG : Hid (w.grownBy (X3.setCells g ((p) * 8) (vr8 v)) (some g)) := zh (grown_trans NG.out (setCells_grown _ _ _ _))
     replace HR := zh (RW.set HR.out (j := p) (by first | (simp only [List.length_set]; omega) | omega) v)
     generalize (X3.setCells g ((p) * 8) (vr8 v)) = Wq4 at *
     refine tP 16 (.pointer (some ⟨g, r * 8, none⟩)) (some 76) rfl ?_ ?_
     ·intro X hX
      clear hX
      go_simp
      all_goals (first | (intro h9; exfalso; omega) | omega)
     try simp only [Act.put, zA, zB, zC]
     refine only_G 17 (by kernel_rfl) rfl (fun X5 hX K' hK' => ?_)
     replace NG := zh (grown_trans NG.out (grown_of_below hX _))
     replace HR := zh (RW.next HR.out hX)
     skip
     clear hX
     rw [if_pos (by rfl)]
     refine wp_store_row _ _ rfl g (r) _ x rfl rfl HR.out (by first | (simp only [List.length_set]; omega) | omega) ?_
     refine hK'.out _ _ (fun kk hk hS => ?_) ?_
     ·have HN : ∀ px9 ∈ ([(9, g, .cells (vrc Ls).toArray 67), (13, g, .cells (vrc Ls).toArray 67)] : List (Nat × Nat × Obj)), px9.1 = kk → px9.2.1 ≠ g := fun px9 hp e => by
       simp only [List.mem_cons, List.not_mem_nil, or_false] at hp
       rcases hp with rfl | rfl
       ·subst e; exact bfl (by kernel_rfl) hk
       ·subst e; exact bfl (by kernel_rfl) hk
      exact GK.setCells hS HN _ _
     clear hK' K'
     try simp only [Act.put, zA, zB, zC]
     replace NG : Hid (w.grownBy (X5.setCells g ((r) * 8) (vr8 x)) (some g)) := zh (grown_trans NG.out (setCells_grown _ _ _ _))
     replace HR := zh (RW.set HR.out (j := r) (by first | (simp only [List.length_set]; omega) | omega) x)
     generalize (X5.setCells g ((r) * 8) (vr8 x)) = Wq6 at *
     refine done_G (by kernel_rfl) (fun X7 hX => ?_) _
     replace NG := zh (grown_trans NG.out (grown_of_below hX _))
     replace HR := zh (RW.next HR.out hX)
     clear hX
     first | (replace HR := zh (HSW.out ▸ HR.out); skip) | (replace HR := zh (HSX.out ▸ HR.out); skip)
     go_wp2_with fail
     go_roundw
     case rel => exact ⟨V1 ++ [v], V3, by rw [List.length_append, List.length_singleton]; (first | (rw [show a + (V1.length + 1) = r by omega]) | go_num), zh (by rw [HVV.out]; simp), by rw [List.length_append, List.length_singleton]; omega, HR, NG⟩
     case measure => simp [intOf]; omega
    ·have e1 : V1.length = t := by omega
     have E1 : V.take t = V1 := by rw [HVV.out, ← e1, List.take_left]
     have E2 : V.drop t = V2 := by rw [HVV.out, ← e1, List.drop_left]
     rw [E1] at SL
     rw [E2] at SR
     have HON := zh (one_left (V1 := V1) (V2 := V2) (x := x) (by rw [← HVV.out]; exact HS.out) SL.out SR.out)
     clear SL SR E1 E2
     rw [show a + V1.length = e9 by have := HE9.out; omega]
     clear e1 hl1 hlt2
     go_wp2_with fail
     refine bodyPost_ret (results_none rfl _ _ _) rfl ?_
     exact ⟨⟨_, rfl⟩, NG.out, V1 ++ x :: V2, by have h9 := HR.out; simpa using h9, HON.out.1, by rw [HVV.out]; exact HON.out.2, by rw [HVV.out]; simp only [List.length_append, List.length_cons, List.length_nil]; omega⟩
theorem sym_last {g n c a m b : Nat} {P U Q : List Vr} {x : Vr} {w : World} (hn : (P ++ U ++ [x] ++ Q).length = n) (hx : RW w g (P ++ U ++ [x] ++ Q)) (hnc : n ≤ c) (hc : c ≤ 9223372036854775807) (hb9 : n ≤ 100000) (ha : P.length = a) (hm : a + U.length = m) (hb : m + 1 = b) (hU : 1 < U.length) (hv : ∀ r ∈ U, rowB r = true) (hvx : rowB x = true) (hs : Srt vkey U) :
  Calls Tryz.prog 100 #[.slice (some ⟨g, 0, none⟩) n c, .int .i64 a, .int .i64 m, .int .i64 b, CmpV] w fun e w' => (∃ v, e = .returned v) ∧ w.grownBy w' (some g) ∧ ∃ S, RW w' g (P ++ S ++ Q) ∧ Srt vkey S ∧ FE vkey (U ++ [x]) S ∧ S.length = (U ++ [x]).length := by
 have NN := zh (grown_refl w (some g))
 have HX := zh hx
 have HV := zh hv
 have HVX := zh hvx
 have HS := zh hs
 have HN := zh hn
 clear hx hv hvx hs
 have hln : a + U.length + 1 + Q.length = n := by simp only [List.length_append, List.length_cons, List.length_nil] at hn; omega
 obtain ⟨lu, hlu⟩ : ∃ lu, U.length = lu := ⟨_, rfl⟩
 have w1 : IntKind.i64.wrap ((m : Int) - (a : Int)) = (lu : Int) := by rw [IntWalk.i64_in _ (by omega)]; omega
 have w2 : IntKind.i64.wrap ((b : Int) - (m : Int)) = 1 := by rw [IntWalk.i64_in _ (by omega)]; omega
 have q0 : ((lu : Int) == 1) = false := by rw [beq_eq_false_iff_ne]; omega
 have GX : Hid ((P ++ U ++ [x] ++ Q)[m]? = some x) := zh (by rw [show P ++ U ++ [x] ++ Q = (P ++ U) ++ x :: Q by simp, List.getElem?_append_right (by rw [List.length_append]; omega), show m - (P ++ U).length = 0 by rw [List.length_append]; omega]; rfl)
 have GV : Hid (∀ k y, U[k]? = some y → (P ++ U ++ [x] ++ Q)[a + k]? = some y) := zh (fun k y h => by
  have hk := (List.getElem?_eq_some_iff.1 h).1
  rw [List.append_assoc, List.append_assoc, List.getElem?_append_right (by omega), List.getElem?_append_left (by omega)]
  rw [show a + k - P.length = k by omega]; exact h)
 have HLU := zh hlu
 clear hn
 go_enter Tryz.func100, Tryz.ntmps100
 go_wp2_with fail
 clear w1 w2 q0
 obtain ⟨Ls, hLs⟩ : ∃ Ls, P ++ U ++ [x] ++ Q = Ls := ⟨_, rfl⟩
 rw [hLs] at GX GV HX HN
 have HLS := zh hLs
 clear hLs
 go_loopw [14, 15] (fun p q wr => ∃ (i j : Nat), p = .int .i64 (i : Int) ∧ q = .int .i64 (j : Int) ∧ a ≤ i ∧ i ≤ j ∧ j ≤ m ∧ Hid (a < i → ∀ y, U[i - 1 - a]? = some y → vkey y ≤ vkey x) ∧ Hid (j < m → ∀ y, U[j - a]? = some y → vkey x < vkey y) ∧ Hid (RW wr g Ls) ∧ Hid (w.grownBy wr (some g))) (fun p q _ => (intOf q).toNat - (intOf p).toNat)
 case atStart => exact ⟨a, m, rfl, rfl, Nat.le_refl _, by omega, Nat.le_refl _, zh (by omega), zh (by omega), HX, NN⟩
 case round =>
  clear NN HX
  obtain ⟨i, j, rfl, rfl, hmi, hij, hjb, HL, HH, HR, NG⟩ := hrel
  by_cases hlt : i < j
  ·obtain ⟨s, hs⟩ : ∃ s, i + j = s := ⟨_, rfl⟩
   obtain ⟨h, hh⟩ : ∃ h, s / 2 = h := ⟨_, rfl⟩
   have ws : IntKind.i64.wrap ((i : Int) + (j : Int)) = (s : Int) := by rw [IntWalk.i64_in _ (by omega)]; omega
   have hd9 : (s : Int) / 2 = (h : Int) := by omega
   obtain ⟨h1, h2⟩ := half_in hlt
   rw [hs, hh] at h1 h2
   clear hs hh
   have wh : IntKind.i64.wrap ((h : Int) + 1) = (h : Int) + 1 := IntWalk.i64_in _ (by omega)
   obtain ⟨y, hy⟩ : ∃ y, U[h - a]? = some y := ⟨_, List.getElem?_eq_getElem (by omega)⟩
   have HXh : Hid (Ls[h]? = some y) := zh (by have h9 := GV.out _ _ hy; rw [show a + (h - a) = h by omega] at h9; exact h9)
   have KX := rcmp_key HVX.out (HV.out y (List.mem_of_getElem? hy))
   have HY := zh hy
   clear hy
   obtain ⟨q, hq⟩ : ∃ q, rcmp x y = q := ⟨_, rfl⟩
   have CC : Hid (∀ W : World, Calls Tryz.prog 42 #[Rwv x, Rwv y] W fun e w' => e = .returned (.int .i64 q) ∧ Below W.heap.size W w') := zh (fun W => by rw [← hq]; exact compare_calls x y W)
   rw [hq] at KX
   clear hq
   have hhn : h < n := by omega
   have hmn9 : m < n := by omega
   by_cases hlt9 : vkey x < vkey y
   ·have d9 : decide (q < 0) = true := decide_eq_true (by rw [KX]; exact kcmp_lt.2 hlt9)
    clear KX
    go_upto_region 17 with fail
    have HDRW := zh (Below.drew (Below.refl wr.heap.size wr))
    replace NG := zh (grown_trans NG.out (grown_of_below HDRW.out _))
    replace HR := zh (RW.next HR.out HDRW.out)
    clear HDRW
    have HAL : Hid (∀ kx9 : Nat, GK [(4, g, .cells (vrc Ls).toArray 67), (8, g, .cells (vrc Ls).toArray 67)] kx9 wr.drew) := zh (fun kx9 => fun px9 hp e => by
     simp only [List.mem_cons, List.not_mem_nil, or_false] at hp
     rcases hp with rfl | rfl
     ·exact HR.out
     ·exact HR.out
    )
    refine region_G (S := GK [(4, g, .cells (vrc Ls).toArray 67), (8, g, .cells (vrc Ls).toArray 67)]) (by kernel_rfl) ?_
    refine tP 0 (CmpV) (some 92) rfl ?_ ?_
    ·intro X hX
     clear hX
     go_simp
     all_goals (first | (intro h9; exfalso; omega) | omega)
    try simp only [Act.put, zA, zB, zC]
    refine tP 1 (.slice (some ⟨g, 0, none⟩) n c) (some 93) rfl ?_ ?_
    ·intro X hX
     clear hX
     go_simp
     all_goals (first | (intro h9; exfalso; omega) | omega)
    try simp only [Act.put, zA, zB, zC]
    refine tP 2 (.int .i64 (m : Int)) (some 94) rfl ?_ ?_
    ·intro X hX
     clear hX
     go_simp
     all_goals (first | (intro h9; exfalso; omega) | omega)
    try simp only [Act.put, zA, zB, zC]
    refine tP 3 (.pointer (some ⟨g, m * 8, none⟩)) (some 95) rfl ?_ ?_
    ·intro X hX
     clear hX
     go_simp
     all_goals (first | (intro h9; exfalso; omega) | omega)
    try simp only [Act.put, zA, zB, zC]
    refine tG 4 (.agg #[.int .i64 x.t, .int .i64 x.c, .int .i64 x.i, .int .i64 x.j, .int .i64 x.re, .int .i64 x.im, .int .i64 x.dn, .int .i64 x.n]) (some 96) (GK.grow _) rfl (YieldsIf.toG (Or.inl ⟨by rfl, ?_⟩)) (HAL.out 4) ?_
    ·intro X hX
     have hh := hX (4, g, .cells (vrc Ls).toArray 67) (List.Mem.head _) rfl
     have hh0 := (RW.cell (show RW _ g Ls from hh) GX.out 0 _ rfl)
     simp only [Nat.add_zero] at hh0
     have hh1 := (RW.cell (show RW _ g Ls from hh) GX.out 1 _ rfl)
     have hh2 := (RW.cell (show RW _ g Ls from hh) GX.out 2 _ rfl)
     have hh3 := (RW.cell (show RW _ g Ls from hh) GX.out 3 _ rfl)
     have hh4 := (RW.cell (show RW _ g Ls from hh) GX.out 4 _ rfl)
     have hh5 := (RW.cell (show RW _ g Ls from hh) GX.out 5 _ rfl)
     have hh6 := (RW.cell (show RW _ g Ls from hh) GX.out 6 _ rfl)
     have hh7 := (RW.cell (show RW _ g Ls from hh) GX.out 7 _ rfl)
     have hhl := blk_lt hh
     clear hh
     clear hX
     go_simp
     all_goals (first | (intro h9; exfalso; omega) | omega)
    try simp only [Act.put, zA, zB, zC]
    refine tP 5 (.slice (some ⟨g, 0, none⟩) n c) (some 97) rfl ?_ ?_
    ·intro X hX
     clear hX
     go_simp
     all_goals (first | (intro h9; exfalso; omega) | omega)
    try simp only [Act.put, zA, zB, zC]
    refine tP 6 (.int .i64 (h : Int)) (some 98) rfl ?_ ?_
    ·intro X hX
     clear hX
     go_simp
     all_goals (first | (intro h9; exfalso; omega) | omega)
    try simp only [Act.put, zA, zB, zC]
    refine tP 7 (.pointer (some ⟨g, h * 8, none⟩)) (some 99) rfl ?_ ?_
    ·intro X hX
     clear hX
     go_simp
     all_goals (first | (intro h9; exfalso; omega) | omega)
    try simp only [Act.put, zA, zB, zC]
    refine tG 8 (.agg #[.int .i64 y.t, .int .i64 y.c, .int .i64 y.i, .int .i64 y.j, .int .i64 y.re, .int .i64 y.im, .int .i64 y.dn, .int .i64 y.n]) (some 100) (GK.grow _) rfl (YieldsIf.toG (Or.inl ⟨by rfl, ?_⟩)) (HAL.out 8) ?_
    ·intro X hX
     have hh := hX (8, g, .cells (vrc Ls).toArray 67) (List.Mem.tail _ (List.Mem.head _)) rfl
     have hh0 := (RW.cell (show RW _ g Ls from hh) HXh.out 0 _ rfl)
     simp only [Nat.add_zero] at hh0
     have hh1 := (RW.cell (show RW _ g Ls from hh) HXh.out 1 _ rfl)
     have hh2 := (RW.cell (show RW _ g Ls from hh) HXh.out 2 _ rfl)
     have hh3 := (RW.cell (show RW _ g Ls from hh) HXh.out 3 _ rfl)
     have hh4 := (RW.cell (show RW _ g Ls from hh) HXh.out 4 _ rfl)
     have hh5 := (RW.cell (show RW _ g Ls from hh) HXh.out 5 _ rfl)
     have hh6 := (RW.cell (show RW _ g Ls from hh) HXh.out 6 _ rfl)
     have hh7 := (RW.cell (show RW _ g Ls from hh) HXh.out 7 _ rfl)
     have hhl := blk_lt hh
     clear hh
     clear hX
     go_simp
     all_goals (first | (intro h9; exfalso; omega) | omega)
    try simp only [Act.put, zA, zB, zC]
    have CFn : ∀ (args : Array Value) (W : World), Sem.run Tryz.prog (callFunc 42 args) W = .ok (.enter 42 args) W := fun _ _ => by kernel_rfl
    refine tG 9 (.int .i64 q) (some 101) (GK.grow _) rfl (yieldsG_call 42 #[.agg #[.int .i64 x.t, .int .i64 x.c, .int .i64 x.i, .int .i64 x.j, .int .i64 x.re, .int .i64 x.im, .int .i64 x.dn, .int .i64 x.n], .agg #[.int .i64 y.t, .int .i64 y.c, .int .i64 y.i, .int .i64 y.j, .int .i64 y.re, .int .i64 y.im, .int .i64 y.dn, .int .i64 y.n]] (by rfl) ?_ (fun X hS => CC.out X)) (GK.drop (by simp)) ?_
    ·intro X hX
     clear hX
     go_simp
    clear CFn
    try simp only [Act.put, zA, zB, zC]
    refine tP 10 (.bool true) (some 102) rfl ?_ ?_
    ·intro X hX
     clear hX
     go_simp
     all_goals (first | (intro h9; exfalso; omega) | omega)
    try simp only [Act.put, zA, zB, zC]
    refine tP 11 (.bool false) (some 103) rfl ?_ ?_
    ·intro X hX
     clear hX
     go_simp
     all_goals (first | (intro h9; exfalso; omega) | omega)
    try simp only [Act.put, zA, zB, zC]
    clear HAL
    refine done_G (by kernel_rfl) (fun X1 hX => ?_) _
    replace NG := zh (grown_trans NG.out (grown_of_below hX _))
    replace HR := zh (RW.next HR.out hX)
    clear hX
    go_wp2_with fail
    go_roundw
    case rel => exact ⟨i, h, rfl, rfl, hmi, by omega, by omega, HL, zh (fun _ z hz => by rw [HY.out] at hz; injection hz with hz; rw [← hz]; exact hlt9), HR, NG⟩
    case measure => simp [intOf]; omega
   ·have d9 : decide (q < 0) = false := decide_eq_false (by rw [KX]; exact fun h => hlt9 (kcmp_lt.1 h))
    clear KX
    go_upto_region 17 with fail
    have HDRW := zh (Below.drew (Below.refl wr.heap.size wr))
    replace NG := zh (grown_trans NG.out (grown_of_below HDRW.out _))
    replace HR := zh (RW.next HR.out HDRW.out)
    clear HDRW
    have HAL : Hid (∀ kx9 : Nat, GK [(4, g, .cells (vrc Ls).toArray 67), (8, g, .cells (vrc Ls).toArray 67)] kx9 wr.drew) := zh (fun kx9 => fun px9 hp e => by
     simp only [List.mem_cons, List.not_mem_nil, or_false] at hp
     rcases hp with rfl | rfl
     ·exact HR.out
     ·exact HR.out
    )
    refine region_G (S := GK [(4, g, .cells (vrc Ls).toArray 67), (8, g, .cells (vrc Ls).toArray 67)]) (by kernel_rfl) ?_
    refine tP 0 (CmpV) (some 92) rfl ?_ ?_
    ·intro X hX
     clear hX
     go_simp
     all_goals (first | (intro h9; exfalso; omega) | omega)
    try simp only [Act.put, zA, zB, zC]
    refine tP 1 (.slice (some ⟨g, 0, none⟩) n c) (some 93) rfl ?_ ?_
    ·intro X hX
     clear hX
     go_simp
     all_goals (first | (intro h9; exfalso; omega) | omega)
    try simp only [Act.put, zA, zB, zC]
    refine tP 2 (.int .i64 (m : Int)) (some 94) rfl ?_ ?_
    ·intro X hX
     clear hX
     go_simp
     all_goals (first | (intro h9; exfalso; omega) | omega)
    try simp only [Act.put, zA, zB, zC]
    refine tP 3 (.pointer (some ⟨g, m * 8, none⟩)) (some 95) rfl ?_ ?_
    ·intro X hX
     clear hX
     go_simp
     all_goals (first | (intro h9; exfalso; omega) | omega)
    try simp only [Act.put, zA, zB, zC]
    refine tG 4 (.agg #[.int .i64 x.t, .int .i64 x.c, .int .i64 x.i, .int .i64 x.j, .int .i64 x.re, .int .i64 x.im, .int .i64 x.dn, .int .i64 x.n]) (some 96) (GK.grow _) rfl (YieldsIf.toG (Or.inl ⟨by rfl, ?_⟩)) (HAL.out 4) ?_
    ·intro X hX
     have hh := hX (4, g, .cells (vrc Ls).toArray 67) (List.Mem.head _) rfl
     have hh0 := (RW.cell (show RW _ g Ls from hh) GX.out 0 _ rfl)
     simp only [Nat.add_zero] at hh0
     have hh1 := (RW.cell (show RW _ g Ls from hh) GX.out 1 _ rfl)
     have hh2 := (RW.cell (show RW _ g Ls from hh) GX.out 2 _ rfl)
     have hh3 := (RW.cell (show RW _ g Ls from hh) GX.out 3 _ rfl)
     have hh4 := (RW.cell (show RW _ g Ls from hh) GX.out 4 _ rfl)
     have hh5 := (RW.cell (show RW _ g Ls from hh) GX.out 5 _ rfl)
     have hh6 := (RW.cell (show RW _ g Ls from hh) GX.out 6 _ rfl)
     have hh7 := (RW.cell (show RW _ g Ls from hh) GX.out 7 _ rfl)
     have hhl := blk_lt hh
     clear hh
     clear hX
     go_simp
     all_goals (first | (intro h9; exfalso; omega) | omega)
    try simp only [Act.put, zA, zB, zC]
    refine tP 5 (.slice (some ⟨g, 0, none⟩) n c) (some 97) rfl ?_ ?_
    ·intro X hX
     clear hX
     go_simp
     all_goals (first | (intro h9; exfalso; omega) | omega)
    try simp only [Act.put, zA, zB, zC]
    refine tP 6 (.int .i64 (h : Int)) (some 98) rfl ?_ ?_
    ·intro X hX
     clear hX
     go_simp
     all_goals (first | (intro h9; exfalso; omega) | omega)
    try simp only [Act.put, zA, zB, zC]
    refine tP 7 (.pointer (some ⟨g, h * 8, none⟩)) (some 99) rfl ?_ ?_
    ·intro X hX
     clear hX
     go_simp
     all_goals (first | (intro h9; exfalso; omega) | omega)
    try simp only [Act.put, zA, zB, zC]
    refine tG 8 (.agg #[.int .i64 y.t, .int .i64 y.c, .int .i64 y.i, .int .i64 y.j, .int .i64 y.re, .int .i64 y.im, .int .i64 y.dn, .int .i64 y.n]) (some 100) (GK.grow _) rfl (YieldsIf.toG (Or.inl ⟨by rfl, ?_⟩)) (HAL.out 8) ?_
    ·intro X hX
     have hh := hX (8, g, .cells (vrc Ls).toArray 67) (List.Mem.tail _ (List.Mem.head _)) rfl
     have hh0 := (RW.cell (show RW _ g Ls from hh) HXh.out 0 _ rfl)
     simp only [Nat.add_zero] at hh0
     have hh1 := (RW.cell (show RW _ g Ls from hh) HXh.out 1 _ rfl)
     have hh2 := (RW.cell (show RW _ g Ls from hh) HXh.out 2 _ rfl)
     have hh3 := (RW.cell (show RW _ g Ls from hh) HXh.out 3 _ rfl)
     have hh4 := (RW.cell (show RW _ g Ls from hh) HXh.out 4 _ rfl)
     have hh5 := (RW.cell (show RW _ g Ls from hh) HXh.out 5 _ rfl)
     have hh6 := (RW.cell (show RW _ g Ls from hh) HXh.out 6 _ rfl)
     have hh7 := (RW.cell (show RW _ g Ls from hh) HXh.out 7 _ rfl)
     have hhl := blk_lt hh
     clear hh
     clear hX
     go_simp
     all_goals (first | (intro h9; exfalso; omega) | omega)
    try simp only [Act.put, zA, zB, zC]
    have CFn : ∀ (args : Array Value) (W : World), Sem.run Tryz.prog (callFunc 42 args) W = .ok (.enter 42 args) W := fun _ _ => by kernel_rfl
    refine tG 9 (.int .i64 q) (some 101) (GK.grow _) rfl (yieldsG_call 42 #[.agg #[.int .i64 x.t, .int .i64 x.c, .int .i64 x.i, .int .i64 x.j, .int .i64 x.re, .int .i64 x.im, .int .i64 x.dn, .int .i64 x.n], .agg #[.int .i64 y.t, .int .i64 y.c, .int .i64 y.i, .int .i64 y.j, .int .i64 y.re, .int .i64 y.im, .int .i64 y.dn, .int .i64 y.n]] (by rfl) ?_ (fun X hS => CC.out X)) (GK.drop (by simp)) ?_
    ·intro X hX
     clear hX
     go_simp
    clear CFn
    try simp only [Act.put, zA, zB, zC]
    refine tP 10 (.bool false) (some 102) rfl ?_ ?_
    ·intro X hX
     clear hX
     go_simp
     all_goals (first | (intro h9; exfalso; omega) | omega)
    try simp only [Act.put, zA, zB, zC]
    refine tP 11 (.bool true) (some 103) rfl ?_ ?_
    ·intro X hX
     clear hX
     go_simp
     all_goals (first | (intro h9; exfalso; omega) | omega)
    try simp only [Act.put, zA, zB, zC]
    clear HAL
    refine done_G (by kernel_rfl) (fun X2 hX => ?_) _
    replace NG := zh (grown_trans NG.out (grown_of_below hX _))
    replace HR := zh (RW.next HR.out hX)
    clear hX
    go_wp2_with fail
    go_roundw
    case rel => exact ⟨h + 1, j, by go_num, rfl, by omega, by omega, hjb, zh (fun _ z hz => by rw [show h + 1 - 1 - a = h - a by omega, HY.out] at hz; injection hz with hz; rw [← hz]; omega), HH, HR, NG⟩
    case measure => simp [intOf]; omega
  ·obtain rfl : i = j := by omega
   obtain ⟨t, ht⟩ : ∃ t, i = a + t := ⟨i - a, by omega⟩
   have htl : t ≤ U.length := by omega
   have SL : Hid (∀ y, (U.take t).getLast? = some y → vkey y ≤ vkey x) := zh (fun y hy => by obtain ⟨t0, h9⟩ := last_take hy htl; exact HL.out (by omega) y (by rw [show i - 1 - a = t - 1 by omega]; exact h9))
   have SR : Hid (∀ y, (U.drop t).head? = some y → vkey x < vkey y) := zh (fun y hy => by have h9 := head_drop hy; have hl := (List.getElem?_eq_some_iff.1 h9).1; exact HH.out (by omega) y (by rw [show i - a = t by omega]; exact h9))
   have HTI := zh ht
   clear ht
   have HR0 : Hid (RW wr g (P ++ U ++ x :: [] ++ Q)) := zh (by have h9 := HR.out; rw [← HLS.out] at h9; simpa using h9)
   clear HR GX GV HLS HN HL HH
   obtain ⟨w5, hw5⟩ : ∃ z, z = wr := ⟨_, rfl⟩
   subst hw5
   go_wp2_with fail
   go_loopw [17] (fun p wr => ∃ (U1 U2 : List Vr), p = .int .i64 ((a + U1.length : Nat) : Int) ∧ Hid (U = U1 ++ U2) ∧ t ≤ U1.length ∧ Hid (RW wr g (P ++ U1 ++ x :: U2 ++ Q)) ∧ Hid (w.grownBy wr (some g))) (fun p _ => (intOf p).toNat - i)
   case atStart => exact ⟨U, [], by rw [show a + U.length = m by omega], zh (by simp), htl, HR0, NG⟩
   case round =>
    clear HR0 NG
    obtain ⟨U1, U2, rfl, HVV, hl1, HR, NG⟩ := hrel
    have hlv : U.length = U1.length + U2.length := by rw [HVV.out, List.length_append]
    by_cases hlt2 : t < U1.length
    ·obtain ⟨U3, y, rfl⟩ : ∃ U3 y, U1 = U3 ++ [y] := (List.eq_nil_or_concat U1).elim (fun h9 => by rw [h9] at hlt2; simp at hlt2) (fun ⟨U3, y, h9⟩ => ⟨U3, y, by rw [h9, List.concat_eq_append]⟩)
     simp only [List.length_append, List.length_cons, List.length_nil] at hlv hlt2 hl1
     have hln9 : (P ++ (U3 ++ [y]) ++ x :: U2 ++ Q).length = n := by simp only [List.length_append, List.length_cons, List.length_nil] at *; omega
     obtain ⟨p, hp⟩ : ∃ p, a + U3.length = p := ⟨_, rfl⟩
     obtain ⟨r, hr⟩ : ∃ r, p + 1 = r := ⟨_, rfl⟩
     rw [show a + (U3 ++ [y]).length = r by rw [List.length_append, List.length_singleton]; omega]
     have wr9 : IntKind.i64.wrap ((r : Int) - 1) = (p : Int) := by rw [IntWalk.i64_in _ (by omega)]; omega
     have hpn : p < n := by omega
     have hrn : r < n := by omega
     have hpt : i < r := by have := HTI.out; omega
     have EL : P ++ (U3 ++ [y]) ++ x :: U2 ++ Q = (P ++ U3) ++ y :: ([] ++ x :: (U2 ++ Q)) := by simp
     rw [EL] at HR
     have hA : (P ++ U3).length = p := by rw [List.length_append]; omega
     have HXu := zh (at2a (A := P ++ U3) (B := []) (C := U2 ++ Q) (u := y) (v := x) hA)
     have HXv := zh (at2b (A := P ++ U3) (B := []) (C := U2 ++ Q) (u := y) (v := x) (j := r) (by rw [hA]; simp; omega))
     have HSW := zh (swap2 (A := P ++ U3) (B := []) (C := U2 ++ Q) (u := y) (v := x) hA (j := r) (by rw [hA]; simp; omega))
     have HSX := zh (swap2' (A := P ++ U3) (B := []) (C := U2 ++ Q) (u := y) (v := x) hA (j := r) (by rw [hA]; simp; omega))
     have EN : (P ++ U3) ++ x :: ([] ++ y :: (U2 ++ Q)) = P ++ U3 ++ x :: (y :: U2) ++ Q := by simp
     have hLn : ((P ++ U3) ++ y :: ([] ++ x :: (U2 ++ Q))).length = n := by rw [← EL]; exact hln9
     obtain ⟨Ls, hLs⟩ : ∃ Ls, (P ++ U3) ++ y :: ([] ++ x :: (U2 ++ Q)) = Ls := ⟨_, rfl⟩
     rw [hLs] at HR HXu HXv HSW HSX hLn
     rw [EN] at HSW HSX
     clear EN EL hA hLs
     go_upto_region 23 with fail
     have HDRW := zh (Below.drew (Below.refl wr.heap.size wr))
     replace NG := zh (grown_trans NG.out (grown_of_below HDRW.out _))
     replace HR := zh (RW.next HR.out HDRW.out)
     clear HDRW
     have HAL : Hid (∀ kx9 : Nat, GK [(9, g, .cells (vrc Ls).toArray 67), (13, g, .cells (vrc Ls).toArray 67)] kx9 wr.drew) := zh (fun kx9 => fun px9 hp e => by
      simp only [List.mem_cons, List.not_mem_nil, or_false] at hp
      rcases hp with rfl | rfl
      ·exact HR.out
      ·exact HR.out
     )
     refine region_G (S := GK [(9, g, .cells (vrc Ls).toArray 67), (13, g, .cells (vrc Ls).toArray 67)]) (by kernel_rfl) ?_
     refine tP 0 (.slice (some ⟨g, 0, none⟩) n c) (some 113) rfl ?_ ?_
     ·intro X hX
      clear hX
      go_simp
      all_goals (first | (intro h9; exfalso; omega) | omega)
     try simp only [Act.put, zA, zB, zC]
     refine tP 1 (.int .i64 (r : Int)) (some 114) rfl ?_ ?_
     ·intro X hX
      clear hX
      go_simp
      all_goals (first | (intro h9; exfalso; omega) | omega)
     try simp only [Act.put, zA, zB, zC]
     refine tP 2 (.slice (some ⟨g, 0, none⟩) n c) (some 115) rfl ?_ ?_
     ·intro X hX
      clear hX
      go_simp
      all_goals (first | (intro h9; exfalso; omega) | omega)
     try simp only [Act.put, zA, zB, zC]
     refine tP 3 (.int .i64 (r : Int)) (some 116) rfl ?_ ?_
     ·intro X hX
      clear hX
      go_simp
      all_goals (first | (intro h9; exfalso; omega) | omega)
     try simp only [Act.put, zA, zB, zC]
     refine tP 4 (.int .i64 (p : Int)) (some 117) rfl ?_ ?_
     ·intro X hX
      clear hX
      go_simp
      all_goals (first | (intro h9; exfalso; omega) | omega)
     try simp only [Act.put, zA, zB, zC]
     refine tP 5 (.slice (some ⟨g, 0, none⟩) n c) (some 118) rfl ?_ ?_
     ·intro X hX
      clear hX
      go_simp
      all_goals (first | (intro h9; exfalso; omega) | omega)
     try simp only [Act.put, zA, zB, zC]
     refine tP 6 (.int .i64 (r : Int)) (some 119) rfl ?_ ?_
     ·intro X hX
      clear hX
      go_simp
      all_goals (first | (intro h9; exfalso; omega) | omega)
     try simp only [Act.put, zA, zB, zC]
     refine tP 7 (.int .i64 (p : Int)) (some 120) rfl ?_ ?_
     ·intro X hX
      clear hX
      go_simp
      all_goals (first | (intro h9; exfalso; omega) | omega)
     try simp only [Act.put, zA, zB, zC]
     refine tP 8 (.pointer (some ⟨g, p * 8, none⟩)) (some 121) rfl ?_ ?_
     ·intro X hX
      clear hX
      go_simp
      all_goals (first | (intro h9; exfalso; omega) | omega)
     try simp only [Act.put, zA, zB, zC]
     refine tG 9 (.agg #[.int .i64 y.t, .int .i64 y.c, .int .i64 y.i, .int .i64 y.j, .int .i64 y.re, .int .i64 y.im, .int .i64 y.dn, .int .i64 y.n]) (some 122) (GK.grow _) rfl (YieldsIf.toG (Or.inl ⟨by rfl, ?_⟩)) (HAL.out 9) ?_
     ·intro X hX
      have hh := hX (9, g, .cells (vrc Ls).toArray 67) (List.Mem.head _) rfl
      have hh0 := (RW.cell (show RW _ g Ls from hh) HXu.out 0 _ rfl)
      simp only [Nat.add_zero] at hh0
      have hh1 := (RW.cell (show RW _ g Ls from hh) HXu.out 1 _ rfl)
      have hh2 := (RW.cell (show RW _ g Ls from hh) HXu.out 2 _ rfl)
      have hh3 := (RW.cell (show RW _ g Ls from hh) HXu.out 3 _ rfl)
      have hh4 := (RW.cell (show RW _ g Ls from hh) HXu.out 4 _ rfl)
      have hh5 := (RW.cell (show RW _ g Ls from hh) HXu.out 5 _ rfl)
      have hh6 := (RW.cell (show RW _ g Ls from hh) HXu.out 6 _ rfl)
      have hh7 := (RW.cell (show RW _ g Ls from hh) HXu.out 7 _ rfl)
      have hhl := blk_lt hh
      clear hh
      clear hX
      go_simp
      all_goals (first | (intro h9; exfalso; omega) | omega)
     try simp only [Act.put, zA, zB, zC]
     refine tP 10 (.slice (some ⟨g, 0, none⟩) n c) (some 123) rfl ?_ ?_
     ·intro X hX
      clear hX
      go_simp
      all_goals (first | (intro h9; exfalso; omega) | omega)
     try simp only [Act.put, zA, zB, zC]
     refine tP 11 (.int .i64 (r : Int)) (some 124) rfl ?_ ?_
     ·intro X hX
      clear hX
      go_simp
      all_goals (first | (intro h9; exfalso; omega) | omega)
     try simp only [Act.put, zA, zB, zC]
     refine tP 12 (.pointer (some ⟨g, r * 8, none⟩)) (some 125) rfl ?_ ?_
     ·intro X hX
      clear hX
      go_simp
      all_goals (first | (intro h9; exfalso; omega) | omega)
     try simp only [Act.put, zA, zB, zC]
     refine tG 13 (.agg #[.int .i64 x.t, .int .i64 x.c, .int .i64 x.i, .int .i64 x.j, .int .i64 x.re, .int .i64 x.im, .int .i64 x.dn, .int .i64 x.n]) (some 126) (GK.grow _) rfl (YieldsIf.toG (Or.inl ⟨by rfl, ?_⟩)) (HAL.out 13) ?_
     ·intro X hX
      have hh := hX (13, g, .cells (vrc Ls).toArray 67) (List.Mem.tail _ (List.Mem.head _)) rfl
      have hh0 := (RW.cell (show RW _ g Ls from hh) HXv.out 0 _ rfl)
      simp only [Nat.add_zero] at hh0
      have hh1 := (RW.cell (show RW _ g Ls from hh) HXv.out 1 _ rfl)
      have hh2 := (RW.cell (show RW _ g Ls from hh) HXv.out 2 _ rfl)
      have hh3 := (RW.cell (show RW _ g Ls from hh) HXv.out 3 _ rfl)
      have hh4 := (RW.cell (show RW _ g Ls from hh) HXv.out 4 _ rfl)
      have hh5 := (RW.cell (show RW _ g Ls from hh) HXv.out 5 _ rfl)
      have hh6 := (RW.cell (show RW _ g Ls from hh) HXv.out 6 _ rfl)
      have hh7 := (RW.cell (show RW _ g Ls from hh) HXv.out 7 _ rfl)
      have hhl := blk_lt hh
      clear hh
      clear hX
      go_simp
      all_goals (first | (intro h9; exfalso; omega) | omega)
     try simp only [Act.put, zA, zB, zC]
     refine tP 14 (.pointer (some ⟨g, r * 8, none⟩)) (some 127) rfl ?_ ?_
     ·intro X hX
      clear hX
      go_simp
      all_goals (first | (intro h9; exfalso; omega) | omega)
     try simp only [Act.put, zA, zB, zC]
     refine only_G 15 (by kernel_rfl) rfl (fun X3 hX K' hK' => ?_)
     replace NG := zh (grown_trans NG.out (grown_of_below hX _))
     replace HR := zh (RW.next HR.out hX)
     replace HAL := zh (fun kx9 => GK.grow _ _ _ _ (HAL.out kx9) hX)
     clear hX
     rw [if_pos (by rfl)]
     refine wp_store_row _ _ rfl g (r) _ y rfl rfl HR.out (by first | (simp only [List.length_set]; omega) | omega) ?_
     refine hK'.out _ _ (fun kk hk hS => ?_) ?_
     ·have HN : ∀ px9 ∈ ([(9, g, .cells (vrc Ls).toArray 67), (13, g, .cells (vrc Ls).toArray 67)] : List (Nat × Nat × Obj)), px9.1 = kk → px9.2.1 ≠ g := fun px9 hp e => by
       simp only [List.mem_cons, List.not_mem_nil, or_false] at hp
       rcases hp with rfl | rfl
       ·subst e; exact bfl (by kernel_rfl) hk
       ·subst e; exact bfl (by kernel_rfl) hk
      exact GK.setCells hS HN _ _
     clear hK' K'
     try simp only [Act.put, zA, zB, zC]
     clear HAL
     replace NG : Hid (w.grownBy (X3.setCells g ((r) * 8) (vr8 y)) (some g)) := zh (grown_trans NG.out (setCells_grown _ _ _ _))
     replace HR := zh (RW.set HR.out (j := r) (by first | (simp only [List.length_set]; omega) | omega) y)
     generalize (X3.setCells g ((r) * 8) (vr8 y)) = Wq4 at *
     refine tP 16 (.pointer (some ⟨g, p * 8, none⟩)) (some 128) rfl ?_ ?_
     ·intro X hX
      clear hX
      go_simp
      all_goals (first | (intro h9; exfalso; omega) | omega)
     try simp only [Act.put, zA, zB, zC]
     refine only_G 17 (by kernel_rfl) rfl (fun X5 hX K' hK' => ?_)
     replace NG := zh (grown_trans NG.out (grown_of_below hX _))
     replace HR := zh (RW.next HR.out hX)
     skip
     clear hX
     rw [if_pos (by rfl)]
     refine wp_store_row _ _ rfl g (p) _ x rfl rfl HR.out (by first | (simp only [List.length_set]; omega) | omega) ?_
     refine hK'.out _ _ (fun kk hk hS => ?_) ?_
     ·have HN : ∀ px9 ∈ ([(9, g, .cells (vrc Ls).toArray 67), (13, g, .cells (vrc Ls).toArray 67)] : List (Nat × Nat × Obj)), px9.1 = kk → px9.2.1 ≠ g := fun px9 hp e => by
       simp only [List.mem_cons, List.not_mem_nil, or_false] at hp
       rcases hp with rfl | rfl
       ·subst e; exact bfl (by kernel_rfl) hk
       ·subst e; exact bfl (by kernel_rfl) hk
      exact GK.setCells hS HN _ _
     clear hK' K'
     try simp only [Act.put, zA, zB, zC]
     replace NG : Hid (w.grownBy (X5.setCells g ((p) * 8) (vr8 x)) (some g)) := zh (grown_trans NG.out (setCells_grown _ _ _ _))
     replace HR := zh (RW.set HR.out (j := p) (by first | (simp only [List.length_set]; omega) | omega) x)
     generalize (X5.setCells g ((p) * 8) (vr8 x)) = Wq6 at *
     refine done_G (by kernel_rfl) (fun X7 hX => ?_) _
     replace NG := zh (grown_trans NG.out (grown_of_below hX _))
     replace HR := zh (RW.next HR.out hX)
     clear hX
     first | (replace HR := zh (HSW.out ▸ HR.out); skip) | (replace HR := zh (HSX.out ▸ HR.out); skip)
     go_wp2_with fail
     go_roundw
     case rel => exact ⟨U3, y :: U2, by rw [hp], zh (by rw [HVV.out]; simp), by omega, HR, NG⟩
     case measure => simp [intOf]; omega
    ·have e1 : U1.length = t := by omega
     have E1 : U.take t = U1 := by rw [HVV.out, ← e1, List.take_left]
     have E2 : U.drop t = U2 := by rw [HVV.out, ← e1, List.drop_left]
     rw [E1] at SL
     rw [E2] at SR
     have HON := zh (one_right (U1 := U1) (U2 := U2) (x := x) (by rw [← HVV.out]; exact HS.out) SL.out SR.out)
     clear SL SR E1 E2
     rw [show a + U1.length = i by have := HTI.out; omega]
     clear e1 hl1 hlt2
     go_wp2_with fail
     refine bodyPost_ret (results_none rfl _ _ _) rfl ?_
     exact ⟨⟨_, rfl⟩, NG.out, U1 ++ x :: U2, by have h9 := HR.out; simpa using h9, HON.out.1, by rw [HVV.out]; exact HON.out.2, by rw [HVV.out]; simp only [List.length_append, List.length_cons, List.length_nil]; omega⟩
end Go.Proofs.YtbbnkclajpaghaaGreatDoor
