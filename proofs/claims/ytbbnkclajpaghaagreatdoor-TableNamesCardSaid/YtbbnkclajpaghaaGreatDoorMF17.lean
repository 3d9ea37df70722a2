/- Several texts in one. -/
import Derived.Test.YtbbnkclajpaghaaGreatDoorMF02
import Derived.Test.YtbbnkclajpaghaaGreatDoorMF05
import Derived.Test.YtbbnkclajpaghaaGreatDoorMF12
set_option maxHeartbeats 8000000
set_option maxRecDepth 100000
set_option linter.unusedVariables false
set_option linter.unusedSimpArgs false
namespace Go.Proofs.YtbbnkclajpaghaaGreatDoor
section
open Go.ChangeShapes Go.WideShapes Go.ChangeAt Go.RowKit
attribute [local go_sem ↓] Go.wp_at_zero Go.wp_at_succ
abbrev CmpV : Value := .func (.func 42) #[] #[]
theorem srt_put {S1 S2 : List Vr} {x : Vr} (h : Srt vkey (S1 ++ S2)) (h1 : ∀ y, S1.getLast? = some y → vkey y ≤ vkey x) (h2 : ∀ y ∈ S2, vkey x < vkey y) : Srt vkey (S1 ++ x :: S2) := by
 obtain ⟨a1, a2, a3⟩ := Srt.app.1 h
 refine Srt.app.2 ⟨a1, List.pairwise_cons.2 ⟨fun y hy => by have := h2 y hy; omega, a2⟩, fun y hy z hz => ?_⟩
 rcases List.mem_cons.1 hz with rfl | hz
 ·obtain ⟨i, hi⟩ := List.mem_iff_getElem?.1 hy
  have hil := (List.getElem?_eq_some_iff.1 hi).1
  have hl : S1[S1.length - 1]? = some S1[S1.length - 1] := List.getElem?_eq_getElem (by omega)
  have k1 := a1.get (show i ≤ S1.length - 1 by omega) hi hl
  have k2 := h1 _ (by rw [List.getLast?_eq_getElem?]; exact hl)
  omega
 ·exact a3 y hy z hz
theorem fe_put {S1 S2 M : List Vr} {x : Vr} (h : FE vkey M (S1 ++ S2)) (h2 : ∀ y ∈ S2, vkey x < vkey y) : FE vkey (M ++ [x]) (S1 ++ x :: S2) := by
 have a := h.app (FE.refl (key := vkey) [x])
 have b : FE vkey ((S1 ++ S2) ++ [x]) (S1 ++ ([x] ++ S2)) := by
  rw [List.append_assoc]
  exact (FE.refl S1).app (FE.swap fun p hp q hq => by
   have := h2 p hp
   rw [List.mem_singleton.1 hq]; omega)
 exact a.trans b
theorem at_mid {P S1 S2 Q : List Vr} {x : Vr} {j : Nat} (h : P.length + S1.length = j) : (P ++ (S1 ++ x :: S2) ++ Q)[j]? = some x := by
 rw [List.append_assoc, List.getElem?_append_right (by omega), List.append_assoc, List.getElem?_append_right (by omega)]
 rw [show j - P.length - S1.length = 0 by omega]; rfl
theorem at_left {P S1 S2 Q : List Vr} {x y : Vr} {m : Nat} (h : P.length + S1.length = m) : (P ++ ((S1 ++ [y]) ++ x :: S2) ++ Q)[m]? = some y := by
 rw [show P ++ ((S1 ++ [y]) ++ x :: S2) ++ Q = P ++ (S1 ++ y :: (x :: S2)) ++ Q by simp]
 exact at_mid h
theorem swap_mid {P S1 S2 Q : List Vr} {x y : Vr} {m : Nat} (h : P.length + S1.length = m) : ((P ++ ((S1 ++ [y]) ++ x :: S2) ++ Q).set (m + 1) y).set m x = P ++ (S1 ++ x :: (y :: S2)) ++ Q := by
 apply List.ext_getElem?
 intro k
 have e1 : P ++ ((S1 ++ [y]) ++ x :: S2) ++ Q = (P ++ S1) ++ (y :: x :: (S2 ++ Q)) := by simp
 have e2 : P ++ (S1 ++ x :: (y :: S2)) ++ Q = (P ++ S1) ++ (x :: y :: (S2 ++ Q)) := by simp
 rw [e1, e2]
 generalize hA : P ++ S1 = A at *
 have hl : A.length = m := by rw [← hA, List.length_append]; exact h
 subst hl
 rw [List.set_append_right _ _ (by omega), List.set_append_right _ _ (by omega)]
 simp
theorem swap_mid' {P S1 S2 Q : List Vr} {x y : Vr} {m : Nat} (h : P.length + S1.length = m) : ((P ++ ((S1 ++ [y]) ++ x :: S2) ++ Q).set m x).set (m + 1) y = P ++ (S1 ++ x :: (y :: S2)) ++ Q := by
 rw [List.set_comm _ _ (by omega)]
 exact swap_mid h
theorem seg_step {xs : List Vr} {i : Nat} {a : Nat} (hi : i < xs.length) (ha : a ≤ i) : (xs.take (i + 1)).drop a = (xs.take i).drop a ++ [xs[i]] := by
 rw [List.take_succ_eq_append_getElem hi, List.drop_append_of_le_length (by rw [List.length_take]; omega)]
theorem ins_calls {g n c a b : Nat} {xs : List Vr} {w : World} (hn : xs.length = n) (hx : RW w g xs) (hnc : n ≤ c) (hc : c ≤ 9223372036854775807) (hab : a ≤ b) (hbn : b ≤ n) (hb9 : n ≤ 100000) (hv : ∀ r ∈ xs, rowB r = true) :
  Calls Tryz.prog 99 #[.slice (some ⟨g, 0, none⟩) n c, .int .i64 a, .int .i64 b, CmpV] w fun e w' => (∃ v, e = .returned v) ∧ w.grownBy w' (some g) ∧ ∃ S, RW w' g (xs.take a ++ S ++ xs.drop b) ∧ Srt vkey S ∧ FE vkey ((xs.take b).drop a) S ∧ S.length = b - a := by
 have NN := zh (grown_refl w (some g))
 have HX := zh hx
 have HV := zh hv
 have wa : IntKind.i64.wrap ((a : Int) + 1) = (a : Int) + 1 := IntWalk.i64_in _ (by omega)
 clear hx hv
 go_enter Tryz.func99, Tryz.ntmps99
 go_wp2_with fail
 by_cases hlt : a = b
 ·have d1 : decide ((a : Int) + 1 < (b : Int)) = false := decide_eq_false (by omega)
  have HE := zh hlt
  clear hlt
  go_loopw [8] (fun i wr => i = .int .i64 ((a : Int) + 1) ∧ Hid (w.grownBy wr (some g)) ∧ Hid (RW wr g xs)) (fun _ _ => 0)
  case atStart => exact ⟨rfl, NN, HX⟩
  case round =>
   clear NN HX
   obtain ⟨rfl, NG, HR⟩ := hrel
   go_wp2_with fail
   go_end0
   have hlt := HE.out
   exact ⟨⟨_, rfl⟩, NG.out, [], by rw [hlt, List.append_nil, List.take_append_drop]; exact HR.out, Srt.nil, by rw [hlt, List.drop_eq_nil_of_le (by rw [List.length_take]; omega)]; exact FE.refl _, by rw [hlt]; simp⟩
 have hal : a < xs.length := by omega
 have S0 : Hid (RW w g (xs.take a ++ [xs[a]] ++ xs.drop (a + 1))) := zh (by rw [List.append_assoc]; show RW w g (xs.take a ++ (xs[a] :: xs.drop (a + 1))); rw [← List.drop_eq_getElem_cons hal, List.take_append_drop]; exact HX.out)
 have F0 : Hid (FE vkey ((xs.take (a + 1)).drop a) [xs[a]]) := zh (by rw [seg_step hal (Nat.le_refl _), List.drop_eq_nil_of_le (by rw [List.length_take]; omega)]; exact FE.refl _)
 go_loopw [8] (fun i wr => ∃ (k : Nat) (S : List Vr), a + 1 ≤ k ∧ k ≤ b ∧ i = .int .i64 (k : Int) ∧ Hid (RW wr g (xs.take a ++ S ++ xs.drop k)) ∧ Hid (Srt vkey S) ∧ Hid (FE vkey ((xs.take k).drop a) S) ∧ S.length = k - a ∧ Hid (w.grownBy wr (some g))) (fun i _ => b - (intOf i).toNat)
 case atStart => exact ⟨a + 1, [xs[a]], Nat.le_refl _, by omega, by go_num, S0, zh (Srt.one _), F0, by simp, NN⟩
 case round =>
  clear NN S0 F0 HX
  obtain ⟨k, S, hk1, hk2, rfl, HR, HS, HF, hsl, NG⟩ := hrel
  by_cases hk : k < b
  ·have hkl : k < xs.length := by omega
   obtain ⟨x, hxk⟩ : ∃ x, xs[k] = x := ⟨_, rfl⟩
   have HF2 : Hid ((xs.take (k + 1)).drop a = (xs.take k).drop a ++ [x]) := zh (by rw [← hxk]; exact seg_step hkl (by omega))
   have XV := zh (HV.out xs[k] (List.getElem_mem hkl))
   rw [hxk] at XV
   have HR0 : Hid (RW wr g (xs.take a ++ (S ++ x :: []) ++ xs.drop (k + 1))) := zh (by have h := HR.out; rw [List.drop_eq_getElem_cons hkl, hxk] at h; simpa using h)
   have SV : Hid (∀ y ∈ S, rowB y = true) := zh (fun y hy => HV.out y (List.mem_of_mem_take (List.mem_of_mem_drop (HF.out.mem.2 hy))))
   clear hxk HR
   obtain ⟨w5, hw5⟩ : ∃ z, z = wr := ⟨_, rfl⟩
   subst hw5
   go_wp2_with fail
   go_loopw [9] (fun i wr => ∃ (S1 S2 : List Vr), i = .int .i64 ((a + S1.length : Nat) : Int) ∧ Hid (S = S1 ++ S2) ∧ Hid (∀ y ∈ S2, vkey x < vkey y) ∧ Hid (RW wr g (xs.take a ++ (S1 ++ x :: S2) ++ xs.drop (k + 1))) ∧ Hid (w.grownBy wr (some g))) (fun i _ => (intOf i).toNat - a)
   case atStart => exact ⟨S, [], by rw [hsl]; congr 2; omega, zh (by simp), zh (by simp), HR0, NG⟩
   case round =>
    clear HR0 NG
    obtain ⟨S1, S2, rfl, HE, HG, HR, NG⟩ := hrel
    have hls : S.length = S1.length + S2.length := by rw [HE.out, List.length_append]
    have PLn : (xs.take a).length = a := by rw [List.length_take]; omega
    rcases List.eq_nil_or_concat S1 with h1 | ⟨S3, y, h1⟩
    ·subst h1
     have SS : Hid (Srt vkey ([] ++ x :: S2)) := zh (srt_put (by rw [← HE.out]; exact HS.out) (by simp) HG.out)
     have FF : Hid (FE vkey ((xs.take (k + 1)).drop a) ([] ++ x :: S2)) := zh (by rw [HF2.out]; exact fe_put (by rw [← HE.out]; exact HF.out) HG.out)
     clear HS HF HF2 HE HG XV SV
     go_upto_region 4 with fail
     have HDRW := zh (Below.drew (Below.refl wr.heap.size wr))
     replace NG := zh (grown_trans NG.out (grown_of_below HDRW.out _))
     replace HR := zh (RW.next HR.out HDRW.out)
     clear HDRW
     have HAL : Hid (∀ kx9 : Nat, GK [] kx9 wr.drew) := zh (fun kx9 => fun px9 hp e => absurd hp (by simp))
     refine region_G (S := GK []) (by kernel_rfl) ?_
     refine tP 0 (.int .i64 (a : Int)) (some 18) rfl ?_ ?_
     ·intro X hX
      clear hX
      go_simp
     try simp only [Act.put, zA, zB, zC]
     refine tP 1 (.int .i64 (a : Int)) (some 19) rfl ?_ ?_
     ·intro X hX
      clear hX
      go_simp
     try simp only [Act.put, zA, zB, zC]
     refine tP 2 (.bool false) (some 20) rfl ?_ ?_
     ·intro X hX
      clear hX
      go_simp
     try simp only [Act.put, zA, zB, zC]
     refine tP 3 (.bool false) (some 21) rfl ?_ ?_
     ·intro X hX
      clear hX
      go_simp
     try simp only [Act.put, zA, zB, zC]
     refine tG 4 (undef) (some 22) (GK.grow _) rfl (YieldsIf.toG (Or.inr ⟨by rfl, rfl⟩)) (GK.drop (by simp)) ?_
     try simp only [Act.put, zA, zB, zC]
     refine tG 5 (undef) (some 23) (GK.grow _) rfl (YieldsIf.toG (Or.inr ⟨by rfl, rfl⟩)) (GK.drop (by simp)) ?_
     try simp only [Act.put, zA, zB, zC]
     refine tG 6 (undef) (some 24) (GK.grow _) rfl (YieldsIf.toG (Or.inr ⟨by rfl, rfl⟩)) (GK.drop (by simp)) ?_
     try simp only [Act.put, zA, zB, zC]
     refine tG 7 (undef) (some 25) (GK.grow _) rfl (YieldsIf.toG (Or.inr ⟨by rfl, rfl⟩)) (GK.drop (by simp)) ?_
     try simp only [Act.put, zA, zB, zC]
     refine tG 8 (undef) (some 26) (GK.grow _) rfl (YieldsIf.toG (Or.inr ⟨by rfl, rfl⟩)) (GK.drop (by simp)) ?_
     try simp only [Act.put, zA, zB, zC]
     refine tG 9 (undef) (some 27) (GK.grow _) rfl (YieldsIf.toG (Or.inr ⟨by rfl, rfl⟩)) (GK.drop (by simp)) ?_
     try simp only [Act.put, zA, zB, zC]
     refine tG 10 (undef) (some 28) (GK.grow _) rfl (YieldsIf.toG (Or.inr ⟨by rfl, rfl⟩)) (GK.drop (by simp)) ?_
     try simp only [Act.put, zA, zB, zC]
     refine tG 11 (undef) (some 29) (GK.grow _) rfl (YieldsIf.toG (Or.inr ⟨by rfl, rfl⟩)) (GK.drop (by simp)) ?_
     try simp only [Act.put, zA, zB, zC]
     refine tG 12 (undef) (some 30) (GK.grow _) rfl (YieldsIf.toG (Or.inr ⟨by rfl, rfl⟩)) (GK.drop (by simp)) ?_
     try simp only [Act.put, zA, zB, zC]
     refine tG 13 (undef) (some 31) (GK.grow _) rfl (YieldsIf.toG (Or.inr ⟨by rfl, rfl⟩)) (GK.drop (by simp)) ?_
     try simp only [Act.put, zA, zB, zC]
     refine tG 14 (undef) (some 32) (GK.grow _) rfl (YieldsIf.toG (Or.inr ⟨by rfl, rfl⟩)) (GK.drop (by simp)) ?_
     try simp only [Act.put, zA, zB, zC]
     refine tG 15 (undef) (some 33) (GK.grow _) rfl (YieldsIf.toG (Or.inr ⟨by rfl, rfl⟩)) (GK.drop (by simp)) ?_
     try simp only [Act.put, zA, zB, zC]
     refine tP 16 (.bool false) (some 34) rfl ?_ ?_
     ·intro X hX
      clear hX
      go_simp
     try simp only [Act.put, zA, zB, zC]
     clear HAL
     refine done_G (by kernel_rfl) (fun X1 hX => ?_) _
     replace NG := zh (grown_trans NG.out (grown_of_below hX _))
     replace HR := zh (RW.next HR.out hX)
     clear hX
     go_wp2_with fail
     go_roundw
     case rel => exact ⟨k + 1, [] ++ x :: S2, by omega, by omega, by go_num, HR, SS, FF, by simp only [List.length_append, List.length_cons, List.length_nil] at *; omega, NG⟩
     case measure => simp [intOf]; omega
    ·rw [List.concat_eq_append] at h1
     subst h1
     obtain ⟨m, hm⟩ : ∃ m, a + S3.length = m := ⟨_, rfl⟩
     have hmm : a + (S3 ++ [y]).length = m + 1 := by rw [List.length_append, List.length_singleton]; omega
     rw [hmm]
     have HSW := zh (swap_mid (P := xs.take a) (S1 := S3) (S2 := S2) (Q := xs.drop (k + 1)) (x := x) (y := y) (m := m) (by omega))
     have HSX := zh (swap_mid' (P := xs.take a) (S1 := S3) (S2 := S2) (Q := xs.drop (k + 1)) (x := x) (y := y) (m := m) (by omega))
     have HXx := zh (at_mid (P := xs.take a) (S1 := S3 ++ [y]) (S2 := S2) (Q := xs.drop (k + 1)) (x := x) (j := m + 1) (by omega))
     have HXy := zh (at_left (P := xs.take a) (S1 := S3) (S2 := S2) (Q := xs.drop (k + 1)) (x := x) (y := y) (m := m) (by omega))
     have YV := SV.out y (by rw [HE.out]; simp)
     have KX := rcmp_key XV.out YV
     have hLn : (xs.take a ++ ((S3 ++ [y]) ++ x :: S2) ++ xs.drop (k + 1)).length = n := by simp only [List.length_append, List.length_cons, List.length_nil, List.length_drop] at *; omega
     obtain ⟨Ls, hLs⟩ : ∃ Ls, xs.take a ++ ((S3 ++ [y]) ++ x :: S2) ++ xs.drop (k + 1) = Ls := ⟨_, rfl⟩
     rw [hLs] at HR HSW HSX HXx HXy hLn
     have hmn : m + 1 < n := by have := (List.getElem?_eq_some_iff.1 HXx.out).1; omega
     have wM : IntKind.i64.wrap (m : Int) = (m : Int) := IntWalk.i64_in _ (by omega)
     have hga : a < m + 1 := by omega
     obtain ⟨q, hq⟩ : ∃ q, rcmp x y = q := ⟨_, rfl⟩
     have CC : Hid (∀ W : World, Calls Tryz.prog 42 #[Rwv x, Rwv y] W fun e w' => e = .returned (.int .i64 q) ∧ Below W.heap.size W w') := zh (fun W => by rw [← hq]; exact compare_calls x y W)
     rw [hq] at KX
     by_cases hlt9 : vkey x < vkey y
     ·have d9 : decide (q < 0) = true := decide_eq_true (by rw [KX]; exact kcmp_lt.2 hlt9)
      clear hq KX
      go_upto_region 4 with fail
      have HDRW := zh (Below.drew (Below.refl wr.heap.size wr))
      replace NG := zh (grown_trans NG.out (grown_of_below HDRW.out _))
      replace HR := zh (RW.next HR.out HDRW.out)
      clear HDRW
      have HAL : Hid (∀ kx9 : Nat, GK [(8, g, .cells (vrc Ls).toArray 67), (13, g, .cells (vrc Ls).toArray 67)] kx9 wr.drew) := zh (fun kx9 => fun px9 hp e => by
       simp only [List.mem_cons, List.not_mem_nil, or_false] at hp
       rcases hp with rfl | rfl
       ·exact HR.out
       ·exact HR.out
      )
      refine region_G (S := GK [(8, g, .cells (vrc Ls).toArray 67), (13, g, .cells (vrc Ls).toArray 67)]) (by kernel_rfl) ?_
      refine tP 0 (.int .i64 ((m + 1 : Nat) : Int)) (some 18) rfl ?_ ?_
      ·intro X hX
       clear hX
       go_simp
       all_goals (first | (intro h9; exfalso; omega) | omega)
      try simp only [Act.put, zA, zB, zC]
      refine tP 1 (.int .i64 (a : Int)) (some 19) rfl ?_ ?_
      ·intro X hX
       clear hX
       go_simp
       all_goals (first | (intro h9; exfalso; omega) | omega)
      try simp only [Act.put, zA, zB, zC]
      refine tP 2 (.bool true) (some 20) rfl ?_ ?_
      ·intro X hX
       clear hX
       go_simp
       all_goals (first | (intro h9; exfalso; omega) | omega)
      try simp only [Act.put, zA, zB, zC]
      refine tP 3 (.bool true) (some 21) rfl ?_ ?_
      ·intro X hX
       clear hX
       go_simp
       all_goals (first | (intro h9; exfalso; omega) | omega)
      try simp only [Act.put, zA, zB, zC]
      refine tP 4 (CmpV) (some 22) rfl ?_ ?_
      ·intro X hX
       clear hX
       go_simp
       all_goals (first | (intro h9; exfalso; omega) | omega)
      try simp only [Act.put, zA, zB, zC]
      refine tP 5 (.slice (some ⟨g, 0, none⟩) n c) (some 23) rfl ?_ ?_
      ·intro X hX
       clear hX
       go_simp
       all_goals (first | (intro h9; exfalso; omega) | omega)
      try simp only [Act.put, zA, zB, zC]
      refine tP 6 (.int .i64 ((m + 1 : Nat) : Int)) (some 24) rfl ?_ ?_
      ·intro X hX
       clear hX
       go_simp
       all_goals (first | (intro h9; exfalso; omega) | omega)
      try simp only [Act.put, zA, zB, zC]
      refine tP 7 (.pointer (some ⟨g, (m + 1) * 8, none⟩)) (some 25) rfl ?_ ?_
      ·intro X hX
       clear hX
       go_simp
       all_goals (first | (intro h9; exfalso; omega) | omega)
      try simp only [Act.put, zA, zB, zC]
      refine tG 8 (.agg #[.int .i64 x.t, .int .i64 x.c, .int .i64 x.i, .int .i64 x.j, .int .i64 x.re, .int .i64 x.im, .int .i64 x.dn, .int .i64 x.n]) (some 26) (GK.grow _) rfl (YieldsIf.toG (Or.inl ⟨by rfl, ?_⟩)) (HAL.out 8) ?_
      ·intro X hX
       have hh := hX (8, g, .cells (vrc Ls).toArray 67) (List.Mem.head _) rfl
       have hh0 := (RW.cell (show RW _ g Ls from hh) HXx.out 0 _ rfl)
       simp only [Nat.add_zero] at hh0
       have hh1 := (RW.cell (show RW _ g Ls from hh) HXx.out 1 _ rfl)
       have hh2 := (RW.cell (show RW _ g Ls from hh) HXx.out 2 _ rfl)
       have hh3 := (RW.cell (show RW _ g Ls from hh) HXx.out 3 _ rfl)
       have hh4 := (RW.cell (show RW _ g Ls from hh) HXx.out 4 _ rfl)
       have hh5 := (RW.cell (show RW _ g Ls from hh) HXx.out 5 _ rfl)
       have hh6 := (RW.cell (show RW _ g Ls from hh) HXx.out 6 _ rfl)
       have hh7 := (RW.cell (show RW _ g Ls from hh) HXx.out 7 _ rfl)
       have hhl := blk_lt hh
       clear hh
       clear hX
       go_simp
       all_goals (first | (intro h9; exfalso; omega) | omega)
      try simp only [Act.put, zA, zB, zC]
      refine tP 9 (.slice (some ⟨g, 0, none⟩) n c) (some 27) rfl ?_ ?_
      ·intro X hX
       clear hX
       go_simp
       all_goals (first | (intro h9; exfalso; omega) | omega)
      try simp only [Act.put, zA, zB, zC]
      refine tP 10 (.int .i64 ((m + 1 : Nat) : Int)) (some 28) rfl ?_ ?_
      ·intro X hX
       clear hX
       go_simp
       all_goals (first | (intro h9; exfalso; omega) | omega)
      try simp only [Act.put, zA, zB, zC]
      refine tP 11 (.int .i64 (m : Int)) (some 29) rfl ?_ ?_
      ·intro X hX
       clear hX
       go_simp
       all_goals (first | (intro h9; exfalso; omega) | omega)
      try simp only [Act.put, zA, zB, zC]
      refine tP 12 (.pointer (some ⟨g, m * 8, none⟩)) (some 30) rfl ?_ ?_
      ·intro X hX
       clear hX
       go_simp
       all_goals (first | (intro h9; exfalso; omega) | omega)
      try simp only [Act.put, zA, zB, zC]
      refine tG 13 (.agg #[.int .i64 y.t, .int .i64 y.c, .int .i64 y.i, .int .i64 y.j, .int .i64 y.re, .int .i64 y.im, .int .i64 y.dn, .int .i64 y.n]) (some 31) (GK.grow _) rfl (YieldsIf.toG (Or.inl ⟨by rfl, ?_⟩)) (HAL.out 13) ?_
      ·intro X hX
       have hh := hX (13, g, .cells (vrc Ls).toArray 67) (List.Mem.tail _ (List.Mem.head _)) rfl
       have hh0 := (RW.cell (show RW _ g Ls from hh) HXy.out 0 _ rfl)
       simp only [Nat.add_zero] at hh0
       have hh1 := (RW.cell (show RW _ g Ls from hh) HXy.out 1 _ rfl)
       have hh2 := (RW.cell (show RW _ g Ls from hh) HXy.out 2 _ rfl)
       have hh3 := (RW.cell (show RW _ g Ls from hh) HXy.out 3 _ rfl)
       have hh4 := (RW.cell (show RW _ g Ls from hh) HXy.out 4 _ rfl)
       have hh5 := (RW.cell (show RW _ g Ls from hh) HXy.out 5 _ rfl)
       have hh6 := (RW.cell (show RW _ g Ls from hh) HXy.out 6 _ rfl)
       have hh7 := (RW.cell (show RW _ g Ls from hh) HXy.out 7 _ rfl)
       have hhl := blk_lt hh
       clear hh
       clear hX
       go_simp
       all_goals (first | (intro h9; exfalso; omega) | omega)
      try simp only [Act.put, zA, zB, zC]
      have CFn : ∀ (args : Array Value) (W : World), Sem.run Tryz.prog (callFunc 42 args) W = .ok (.enter 42 args) W := fun _ _ => by kernel_rfl
      refine tG 14 (.int .i64 q) (some 32) (GK.grow _) rfl (yieldsG_call 42 #[.agg #[.int .i64 x.t, .int .i64 x.c, .int .i64 x.i, .int .i64 x.j, .int .i64 x.re, .int .i64 x.im, .int .i64 x.dn, .int .i64 x.n], .agg #[.int .i64 y.t, .int .i64 y.c, .int .i64 y.i, .int .i64 y.j, .int .i64 y.re, .int .i64 y.im, .int .i64 y.dn, .int .i64 y.n]] (by rfl) ?_ (fun X hS => CC.out X)) (GK.drop (by simp)) ?_
      ·intro X hX
       clear hX
       go_simp
      clear CFn
      try simp only [Act.put, zA, zB, zC]
      refine tP 15 (.bool true) (some 33) rfl ?_ ?_
      ·intro X hX
       clear hX
       go_simp
       all_goals (first | (intro h9; exfalso; omega) | omega)
      try simp only [Act.put, zA, zB, zC]
      refine tP 16 (.bool true) (some 34) rfl ?_ ?_
      ·intro X hX
       clear hX
       go_simp
       all_goals (first | (intro h9; exfalso; omega) | omega)
      try simp only [Act.put, zA, zB, zC]
      clear HAL
      refine done_G (by kernel_rfl) (fun X2 hX => ?_) _
      replace NG := zh (grown_trans NG.out (grown_of_below hX _))
      replace HR := zh (RW.next HR.out hX)
      clear hX
      go_upto_region 6 with fail
      have HDRW := zh (Below.drew (Below.refl X2.heap.size X2))
      replace NG := zh (grown_trans NG.out (grown_of_below HDRW.out _))
      replace HR := zh (RW.next HR.out HDRW.out)
      clear HDRW
      have HAL : Hid (∀ kx9 : Nat, GK [(9, g, .cells (vrc Ls).toArray 67), (13, g, .cells (vrc Ls).toArray 67)] kx9 X2.drew) := zh (fun kx9 => fun px9 hp e => by
       simp only [List.mem_cons, List.not_mem_nil, or_false] at hp
       rcases hp with rfl | rfl
       ·exact HR.out
       ·exact HR.out
      )
      refine region_G (S := GK [(9, g, .cells (vrc Ls).toArray 67), (13, g, .cells (vrc Ls).toArray 67)]) (by kernel_rfl) ?_
      refine tP 0 (.slice (some ⟨g, 0, none⟩) n c) (some 37) rfl ?_ ?_
      ·intro X hX
       clear hX
       go_simp
       all_goals (first | (intro h9; exfalso; omega) | omega)
      try simp only [Act.put, zA, zB, zC]
      refine tP 1 (.int .i64 ((m + 1 : Nat) : Int)) (some 38) rfl ?_ ?_
      ·intro X hX
       clear hX
       go_simp
       all_goals (first | (intro h9; exfalso; omega) | omega)
      try simp only [Act.put, zA, zB, zC]
      refine tP 2 (.slice (some ⟨g, 0, none⟩) n c) (some 39) rfl ?_ ?_
      ·intro X hX
       clear hX
       go_simp
       all_goals (first | (intro h9; exfalso; omega) | omega)
      try simp only [Act.put, zA, zB, zC]
      refine tP 3 (.int .i64 ((m + 1 : Nat) : Int)) (some 40) rfl ?_ ?_
      ·intro X hX
       clear hX
       go_simp
       all_goals (first | (intro h9; exfalso; omega) | omega)
      try simp only [Act.put, zA, zB, zC]
      refine tP 4 (.int .i64 (m : Int)) (some 41) rfl ?_ ?_
      ·intro X hX
       clear hX
       go_simp
       all_goals (first | (intro h9; exfalso; omega) | omega)
      try simp only [Act.put, zA, zB, zC]
      refine tP 5 (.slice (some ⟨g, 0, none⟩) n c) (some 42) rfl ?_ ?_
      ·intro X hX
       clear hX
       go_simp
       all_goals (first | (intro h9; exfalso; omega) | omega)
      try simp only [Act.put, zA, zB, zC]
      refine tP 6 (.int .i64 ((m + 1 : Nat) : Int)) (some 43) rfl ?_ ?_
      ·intro X hX
       clear hX
       go_simp
       all_goals (first | (intro h9; exfalso; omega) | omega)
      try simp only [Act.put, zA, zB, zC]
      refine tP 7 (.int .i64 (m : Int)) (some 44) rfl ?_ ?_
      ·intro X hX
       clear hX
       go_simp
       all_goals (first | (intro h9; exfalso; omega) | omega)
      try simp only [Act.put, zA, zB, zC]
      refine tP 8 (.pointer (some ⟨g, m * 8, none⟩)) (some 45) rfl ?_ ?_
      ·intro X hX
       clear hX
       go_simp
       all_goals (first | (intro h9; exfalso; omega) | omega)
      try simp only [Act.put, zA, zB, zC]
      refine tG 9 (.agg #[.int .i64 y.t, .int .i64 y.c, .int .i64 y.i, .int .i64 y.j, .int .i64 y.re, .int .i64 y.im, .int .i64 y.dn, .int .i64 y.n]) (some 46) (GK.grow _) rfl (YieldsIf.toG (Or.inl ⟨by rfl, ?_⟩)) (HAL.out 9) ?_
      ·intro X hX
       have hh := hX (9, g, .cells (vrc Ls).toArray 67) (List.Mem.head _) rfl
       have hh0 := (RW.cell (show RW _ g Ls from hh) HXy.out 0 _ rfl)
       simp only [Nat.add_zero] at hh0
       have hh1 := (RW.cell (show RW _ g Ls from hh) HXy.out 1 _ rfl)
       have hh2 := (RW.cell (show RW _ g Ls from hh) HXy.out 2 _ rfl)
       have hh3 := (RW.cell (show RW _ g Ls from hh) HXy.out 3 _ rfl)
       have hh4 := (RW.cell (show RW _ g Ls from hh) HXy.out 4 _ rfl)
       have hh5 := (RW.cell (show RW _ g Ls from hh) HXy.out 5 _ rfl)
       have hh6 := (RW.cell (show RW _ g Ls from hh) HXy.out 6 _ rfl)
       have hh7 := (RW.cell (show RW _ g Ls from hh) HXy.out 7 _ rfl)
       have hhl := blk_lt hh
       clear hh
       clear hX
       go_simp
       all_goals (first | (intro h9; exfalso; omega) | omega)
      try simp only [Act.put, zA, zB, zC]
      refine tP 10 (.slice (some ⟨g, 0, none⟩) n c) (some 47) rfl ?_ ?_
      ·intro X hX
       clear hX
       go_simp
       all_goals (first | (intro h9; exfalso; omega) | omega)
      try simp only [Act.put, zA, zB, zC]
      refine tP 11 (.int .i64 ((m + 1 : Nat) : Int)) (some 48) rfl ?_ ?_
      ·intro X hX
       clear hX
       go_simp
       all_goals (first | (intro h9; exfalso; omega) | omega)
      try simp only [Act.put, zA, zB, zC]
      refine tP 12 (.pointer (some ⟨g, (m + 1) * 8, none⟩)) (some 49) rfl ?_ ?_
      ·intro X hX
       clear hX
       go_simp
       all_goals (first | (intro h9; exfalso; omega) | omega)
      try simp only [Act.put, zA, zB, zC]
      refine tG 13 (.agg #[.int .i64 x.t, .int .i64 x.c, .int .i64 x.i, .int .i64 x.j, .int .i64 x.re, .int .i64 x.im, .int .i64 x.dn, .int .i64 x.n]) (some 50) (GK.grow _) rfl (YieldsIf.toG (Or.inl ⟨by rfl, ?_⟩)) (HAL.out 13) ?_
      ·intro X hX
       have hh := hX (13, g, .cells (vrc Ls).toArray 67) (List.Mem.tail _ (List.Mem.head _)) rfl
       have hh0 := (RW.cell (show RW _ g Ls from hh) HXx.out 0 _ rfl)
       simp only [Nat.add_zero] at hh0
       have hh1 := (RW.cell (show RW _ g Ls from hh) HXx.out 1 _ rfl)
       have hh2 := (RW.cell (show RW _ g Ls from hh) HXx.out 2 _ rfl)
       have hh3 := (RW.cell (show RW _ g Ls from hh) HXx.out 3 _ rfl)
       have hh4 := (RW.cell (show RW _ g Ls from hh) HXx.out 4 _ rfl)
       have hh5 := (RW.cell (show RW _ g Ls from hh) HXx.out 5 _ rfl)
       have hh6 := (RW.cell (show RW _ g Ls from hh) HXx.out 6 _ rfl)
       have hh7 := (RW.cell (show RW _ g Ls from hh) HXx.out 7 _ rfl)
       have hhl := blk_lt hh
       clear hh
       clear hX
       go_simp
       all_goals (first | (intro h9; exfalso; omega) | omega)
      try simp only [Act.put, zA, zB, zC]
      refine tP 14 (.pointer (some ⟨g, (m + 1) * 8, none⟩)) (some 51) rfl ?_ ?_
      ·intro X hX
       clear hX
       go_simp
       all_goals (first | (intro h9; exfalso; omega) | omega)
      try simp only [Act.put, zA, zB, zC]
      refine only_G 15 (by kernel_rfl) rfl (fun X3 hX K' hK' => ?_)
      replace NG := zh (grown_trans NG.out (grown_of_below hX _))
      replace HR := zh (RW.next HR.out hX)
      replace HAL := zh (fun kx9 => GK.grow _ _ _ _ (HAL.out kx9) hX)
      clear hX
      rw [if_pos (by rfl)]
      refine wp_store_row _ _ rfl g (m + 1) _ y rfl rfl HR.out (by first | (simp only [List.length_set]; omega) | omega) ?_
      refine hK'.out _ _ (fun kk hk hS => ?_) ?_
      ·have HN : ∀ px9 ∈ ([(9, g, .cells (vrc Ls).toArray 67), (13, g, .cells (vrc Ls).toArray 67)] : List (Nat × Nat × Obj)), px9.1 = kk → px9.2.1 ≠ g := fun px9 hp e => by
        simp only [List.mem_cons, List.not_mem_nil, or_false] at hp
        rcases hp with rfl | rfl
        ·subst e; exact bfl (by kernel_rfl) hk
        ·subst e; exact bfl (by kernel_rfl) hk
       exact GK.setCells hS HN _ _
      clear hK' K'
      try simp only [Act.put, zA, zB, zC]
      clear HAL
      replace NG : Hid (w.grownBy (X3.setCells g ((m + 1) * 8) (vr8 y)) (some g)) := zh (grown_trans NG.out (setCells_grown _ _ _ _))
      replace HR := zh (RW.set HR.out (j := m + 1) (by first | (simp only [List.length_set]; omega) | omega) y)
      generalize (X3.setCells g ((m + 1) * 8) (vr8 y)) = Wq4 at *
      refine tP 16 (.pointer (some ⟨g, m * 8, none⟩)) (some 52) rfl ?_ ?_
      ·intro X hX
       clear hX
       go_simp
       all_goals (first | (intro h9; exfalso; omega) | omega)
      try simp only [Act.put, zA, zB, zC]
      refine only_G 17 (by kernel_rfl) rfl (fun X5 hX K' hK' => ?_)
      replace NG := zh (grown_trans NG.out (grown_of_below hX _))
      replace HR := zh (RW.next HR.out hX)
      skip
      clear hX
      rw [if_pos (by rfl)]
      refine wp_store_row _ _ rfl g (m) _ x rfl rfl HR.out (by first | (simp only [List.length_set]; omega) | omega) ?_
      refine hK'.out _ _ (fun kk hk hS => ?_) ?_
      ·have HN : ∀ px9 ∈ ([(9, g, .cells (vrc Ls).toArray 67), (13, g, .cells (vrc Ls).toArray 67)] : List (Nat × Nat × Obj)), px9.1 = kk → px9.2.1 ≠ g := fun px9 hp e => by
        simp only [List.mem_cons, List.not_mem_nil, or_false] at hp
        rcases hp with rfl | rfl
        ·subst e; exact bfl (by kernel_rfl) hk
        ·subst e; exact bfl (by kernel_rfl) hk
       exact GK.setCells hS HN _ _
      clear hK' K'
      try simp only [Act.put, zA, zB, zC]
      replace NG : Hid (w.grownBy (X5.setCells g ((m) * 8) (vr8 x)) (some g)) := zh (grown_trans NG.out (setCells_grown _ _ _ _))
      replace HR := zh (RW.set HR.out (j := m) (by first | (simp only [List.length_set]; omega) | omega) x)
      generalize (X5.setCells g ((m) * 8) (vr8 x)) = Wq6 at *
      refine done_G (by kernel_rfl) (fun X7 hX => ?_) _
      replace NG := zh (grown_trans NG.out (grown_of_below hX _))
      replace HR := zh (RW.next HR.out hX)
      clear hX
      first | (replace HR := zh (HSW.out ▸ HR.out); skip) | (replace HR := zh (HSX.out ▸ HR.out); skip)
      go_wp2_with fail
      go_roundw
      case rel => exact ⟨S3, y :: S2, by rw [hm], zh (by rw [HE.out]; simp), zh (fun z hz => by rcases List.mem_cons.1 hz with rfl | hz; exact hlt9; exact HG.out z hz), HR, NG⟩
      case measure => simp [intOf]; omega
     ·have d9 : decide (q < 0) = false := decide_eq_false (by rw [KX]; exact fun h => hlt9 (kcmp_lt.1 h))
      clear hq KX
      have SS : Hid (Srt vkey ((S3 ++ [y]) ++ x :: S2)) := zh (srt_put (by rw [← HE.out]; exact HS.out) (by intro z hz; simp at hz; subst hz; omega) HG.out)
      have FF : Hid (FE vkey ((xs.take (k + 1)).drop a) ((S3 ++ [y]) ++ x :: S2)) := zh (by rw [HF2.out]; exact fe_put (by rw [← HE.out]; exact HF.out) HG.out)
      go_upto_region 4 with fail
      have HDRW := zh (Below.drew (Below.refl wr.heap.size wr))
      replace NG := zh (grown_trans NG.out (grown_of_below HDRW.out _))
      replace HR := zh (RW.next HR.out HDRW.out)
      clear HDRW
      have HAL : Hid (∀ kx9 : Nat, GK [(8, g, .cells (vrc Ls).toArray 67), (13, g, .cells (vrc Ls).toArray 67)] kx9 wr.drew) := zh (fun kx9 => fun px9 hp e => by
       simp only [List.mem_cons, List.not_mem_nil, or_false] at hp
       rcases hp with rfl | rfl
       ·exact HR.out
       ·exact HR.out
      )
      refine region_G (S := GK [(8, g, .cells (vrc Ls).toArray 67), (13, g, .cells (vrc Ls).toArray 67)]) (by kernel_rfl) ?_
      refine tP 0 (.int .i64 ((m + 1 : Nat) : Int)) (some 18) rfl ?_ ?_
      ·intro X hX
       clear hX
       go_simp
       all_goals (first | (intro h9; exfalso; omega) | omega)
      try simp only [Act.put, zA, zB, zC]
      refine tP 1 (.int .i64 (a : Int)) (some 19) rfl ?_ ?_
      ·intro X hX
       clear hX
       go_simp
       all_goals (first | (intro h9; exfalso; omega) | omega)
      try simp only [Act.put, zA, zB, zC]
      refine tP 2 (.bool true) (some 20) rfl ?_ ?_
      ·intro X hX
       clear hX
       go_simp
       all_goals (first | (intro h9; exfalso; omega) | omega)
      try simp only [Act.put, zA, zB, zC]
      refine tP 3 (.bool true) (some 21) rfl ?_ ?_
      ·intro X hX
       clear hX
       go_simp
       all_goals (first | (intro h9; exfalso; omega) | omega)
      try simp only [Act.put, zA, zB, zC]
      refine tP 4 (CmpV) (some 22) rfl ?_ ?_
      ·intro X hX
       clear hX
       go_simp
       all_goals (first | (intro h9; exfalso; omega) | omega)
      try simp only [Act.put, zA, zB, zC]
      refine tP 5 (.slice (some ⟨g, 0, none⟩) n c) (some 23) rfl ?_ ?_
      ·intro X hX
       clear hX
       go_simp
       all_goals (first | (intro h9; exfalso; omega) | omega)
      try simp only [Act.put, zA, zB, zC]
      refine tP 6 (.int .i64 ((m + 1 : Nat) : Int)) (some 24) rfl ?_ ?_
      ·intro X hX
       clear hX
       go_simp
       all_goals (first | (intro h9; exfalso; omega) | omega)
      try simp only [Act.put, zA, zB, zC]
      refine tP 7 (.pointer (some ⟨g, (m + 1) * 8, none⟩)) (some 25) rfl ?_ ?_
      ·intro X hX
       clear hX
       go_simp
       all_goals (first | (intro h9; exfalso; omega) | omega)
      try simp only [Act.put, zA, zB, zC]
      refine tG 8 (.agg #[.int .i64 x.t, .int .i64 x.c, .int .i64 x.i, .int .i64 x.j, .int .i64 x.re, .int .i64 x.im, .int .i64 x.dn, .int .i64 x.n]) (some 26) (GK.grow _) rfl (YieldsIf.toG (Or.inl ⟨by rfl, ?_⟩)) (HAL.out 8) ?_
      ·intro X hX
       have hh := hX (8, g, .cells (vrc Ls).toArray 67) (List.Mem.head _) rfl
       have hh0 := (RW.cell (show RW _ g Ls from hh) HXx.out 0 _ rfl)
       simp only [Nat.add_zero] at hh0
       have hh1 := (RW.cell (show RW _ g Ls from hh) HXx.out 1 _ rfl)
       have hh2 := (RW.cell (show RW _ g Ls from hh) HXx.out 2 _ rfl)
       have hh3 := (RW.cell (show RW _ g Ls from hh) HXx.out 3 _ rfl)
       have hh4 := (RW.cell (show RW _ g Ls from hh) HXx.out 4 _ rfl)
       have hh5 := (RW.cell (show RW _ g Ls from hh) HXx.out 5 _ rfl)
       have hh6 := (RW.cell (show RW _ g Ls from hh) HXx.out 6 _ rfl)
       have hh7 := (RW.cell (show RW _ g Ls from hh) HXx.out 7 _ rfl)
       have hhl := blk_lt hh
       clear hh
       clear hX
       go_simp
       all_goals (first | (intro h9; exfalso; omega) | omega)
      try simp only [Act.put, zA, zB, zC]
      refine tP 9 (.slice (some ⟨g, 0, none⟩) n c) (some 27) rfl ?_ ?_
      ·intro X hX
       clear hX
       go_simp
       all_goals (first | (intro h9; exfalso; omega) | omega)
      try simp only [Act.put, zA, zB, zC]
      refine tP 10 (.int .i64 ((m + 1 : Nat) : Int)) (some 28) rfl ?_ ?_
      ·intro X hX
       clear hX
       go_simp
       all_goals (first | (intro h9; exfalso; omega) | omega)
      try simp only [Act.put, zA, zB, zC]
      refine tP 11 (.int .i64 (m : Int)) (some 29) rfl ?_ ?_
      ·intro X hX
       clear hX
       go_simp
       all_goals (first | (intro h9; exfalso; omega) | omega)
      try simp only [Act.put, zA, zB, zC]
      refine tP 12 (.pointer (some ⟨g, m * 8, none⟩)) (some 30) rfl ?_ ?_
      ·intro X hX
       clear hX
       go_simp
       all_goals (first | (intro h9; exfalso; omega) | omega)
      try simp only [Act.put, zA, zB, zC]
      refine tG 13 (.agg #[.int .i64 y.t, .int .i64 y.c, .int .i64 y.i, .int .i64 y.j, .int .i64 y.re, .int .i64 y.im, .int .i64 y.dn, .int .i64 y.n]) (some 31) (GK.grow _) rfl (YieldsIf.toG (Or.inl ⟨by rfl, ?_⟩)) (HAL.out 13) ?_
      ·intro X hX
       have hh := hX (13, g, .cells (vrc Ls).toArray 67) (List.Mem.tail _ (List.Mem.head _)) rfl
       have hh0 := (RW.cell (show RW _ g Ls from hh) HXy.out 0 _ rfl)
       simp only [Nat.add_zero] at hh0
       have hh1 := (RW.cell (show RW _ g Ls from hh) HXy.out 1 _ rfl)
       have hh2 := (RW.cell (show RW _ g Ls from hh) HXy.out 2 _ rfl)
       have hh3 := (RW.cell (show RW _ g Ls from hh) HXy.out 3 _ rfl)
       have hh4 := (RW.cell (show RW _ g Ls from hh) HXy.out 4 _ rfl)
       have hh5 := (RW.cell (show RW _ g Ls from hh) HXy.out 5 _ rfl)
       have hh6 := (RW.cell (show RW _ g Ls from hh) HXy.out 6 _ rfl)
       have hh7 := (RW.cell (show RW _ g Ls from hh) HXy.out 7 _ rfl)
       have hhl := blk_lt hh
       clear hh
       clear hX
       go_simp
       all_goals (first | (intro h9; exfalso; omega) | omega)
      try simp only [Act.put, zA, zB, zC]
      have CFn : ∀ (args : Array Value) (W : World), Sem.run Tryz.prog (callFunc 42 args) W = .ok (.enter 42 args) W := fun _ _ => by kernel_rfl
      refine tG 14 (.int .i64 q) (some 32) (GK.grow _) rfl (yieldsG_call 42 #[.agg #[.int .i64 x.t, .int .i64 x.c, .int .i64 x.i, .int .i64 x.j, .int .i64 x.re, .int .i64 x.im, .int .i64 x.dn, .int .i64 x.n], .agg #[.int .i64 y.t, .int .i64 y.c, .int .i64 y.i, .int .i64 y.j, .int .i64 y.re, .int .i64 y.im, .int .i64 y.dn, .int .i64 y.n]] (by rfl) ?_ (fun X hS => CC.out X)) (GK.drop (by simp)) ?_
      ·intro X hX
       clear hX
       go_simp
      clear CFn
      try simp only [Act.put, zA, zB, zC]
      refine tP 15 (.bool false) (some 33) rfl ?_ ?_
      ·intro X hX
       clear hX
       go_simp
       all_goals (first | (intro h9; exfalso; omega) | omega)
      try simp only [Act.put, zA, zB, zC]
      refine tP 16 (.bool false) (some 34) rfl ?_ ?_
      ·intro X hX
       clear hX
       go_simp
       all_goals (first | (intro h9; exfalso; omega) | omega)
      try simp only [Act.put, zA, zB, zC]
      clear HAL
      refine done_G (by kernel_rfl) (fun X8 hX => ?_) _
      replace NG := zh (grown_trans NG.out (grown_of_below hX _))
      replace HR := zh (RW.next HR.out hX)
      clear hX
      rw [← hLs] at HR
      clear HS HF HF2 HE HG XV SV HSW HSX HXx HXy CC YV
      go_wp2_with fail
      go_roundw
      case rel => exact ⟨k + 1, (S3 ++ [y]) ++ x :: S2, by omega, by omega, by go_num, HR, SS, FF, by simp only [List.length_append, List.length_cons, List.length_nil] at *; omega, NG⟩
      case measure => simp [intOf]; omega
  ·obtain rfl : k = b := by omega
   go_wp2_with fail
   go_end0
   exact ⟨⟨_, rfl⟩, NG.out, S, HR.out, HS.out, HF.out, hsl⟩
end
section
open Go.ChangeShapes Go.WideShapes Go.ChangeAt Go.RowKit
attribute [local go_sem ↓] Go.wp_at_zero Go.wp_at_succ
theorem at2a {α : Type} {A B C : List α} {u v : α} {i : Nat} (h : A.length = i) : (A ++ u :: (B ++ v :: C))[i]? = some u := by
 rw [List.getElem?_append_right (by omega), show i - A.length = 0 by omega]; rfl
theorem at2b {α : Type} {A B C : List α} {u v : α} {j : Nat} (h : A.length + 1 + B.length = j) : (A ++ u :: (B ++ v :: C))[j]? = some v := by
 rw [show A ++ u :: (B ++ v :: C) = (A ++ u :: B) ++ v :: C by simp]
 rw [List.getElem?_append_right (by simp; omega)]
 simp only [List.length_append, List.length_cons]
 rw [show j - (A.length + (B.length + 1)) = 0 by omega]; rfl
theorem swap2 {α : Type} {A B C : List α} {u v : α} {i j : Nat} (hi : A.length = i) (hj : A.length + 1 + B.length = j) : ((A ++ u :: (B ++ v :: C)).set i v).set j u = A ++ v :: (B ++ u :: C) := by
 subst hi
 rw [List.set_append_right _ _ (Nat.le_refl _), Nat.sub_self, List.set_cons_zero]
 rw [show A ++ v :: (B ++ v :: C) = (A ++ v :: B) ++ v :: C by simp]
 rw [List.set_append_right _ _ (by simp; omega)]
 simp only [List.length_append, List.length_cons]
 rw [show j - (A.length + (B.length + 1)) = 0 by omega, List.set_cons_zero]
 simp
theorem swap2' {α : Type} {A B C : List α} {u v : α} {i j : Nat} (hi : A.length = i) (hj : A.length + 1 + B.length = j) : ((A ++ u :: (B ++ v :: C)).set j u).set i v = A ++ v :: (B ++ u :: C) := by
 rw [List.set_comm _ _ (by omega)]
 exact swap2 hi hj
theorem swr_calls {g n c a b q : Nat} {P U M V Q : List Vr} {w : World} (hn : (P ++ U ++ M ++ V ++ Q).length = n) (hx : RW w g (P ++ U ++ M ++ V ++ Q)) (hnc : n ≤ c) (hc : c ≤ 9223372036854775807) (hb9 : n ≤ 100000) (ha : P.length = a) (hU : U.length = q) (hV : V.length = q) (hb : a + q + M.length = b) :
  Calls Tryz.prog 144 #[.slice (some ⟨g, 0, none⟩) n c, .int .i64 a, .int .i64 b, .int .i64 q, CmpV] w fun e w' => (∃ v, e = .returned v) ∧ w.grownBy w' (some g) ∧ RW w' g (P ++ V ++ M ++ U ++ Q) := by
 have NN := zh (grown_refl w (some g))
 have HX : Hid (RW w g (P ++ ([] ++ U) ++ M ++ ([] ++ V) ++ Q)) := zh hx
 have hln : P.length + q + M.length + q + Q.length = n := by simp only [List.length_append] at hn; omega
 clear hx hn
 go_enter Tryz.func144, Tryz.ntmps144
 go_wp2_with fail
 go_loopw [10] (fun i wr => ∃ (U1 U2 V1 V2 : List Vr), i = .int .i64 (U1.length : Int) ∧ Hid (U = U1 ++ U2) ∧ Hid (V = V1 ++ V2) ∧ V1.length = U1.length ∧ Hid (RW wr g (P ++ (V1 ++ U2) ++ M ++ (U1 ++ V2) ++ Q)) ∧ Hid (w.grownBy wr (some g))) (fun i _ => q - (intOf i).toNat)
 case atStart => exact ⟨[], U, [], V, rfl, zh rfl, zh rfl, rfl, HX, NN⟩
 case round =>
  clear NN HX
  obtain ⟨U1, U2, V1, V2, rfl, HU, HV, hl, HR, NG⟩ := hrel
  have lU : U.length = U1.length + U2.length := by rw [HU.out, List.length_append]
  have lV : V.length = V1.length + V2.length := by rw [HV.out, List.length_append]
  cases U2 with
  | nil =>
   have e0 : V2 = [] := List.length_eq_zero_iff.1 (by simp only [List.length_nil] at *; omega)
   subst e0
   have hiq : U1.length = q := by simp only [List.length_nil] at *; omega
   rw [hiq]
   have HR9 : Hid (RW wr g (P ++ V ++ M ++ U ++ Q)) := zh (by have h := HR.out; rw [List.append_nil, List.append_nil] at h; rw [HU.out, HV.out, List.append_nil, List.append_nil]; exact h)
   clear HR hiq hl lU lV
   go_wp2_with fail
   go_end0
   exact ⟨⟨_, rfl⟩, NG.out, HR9.out⟩
  | cons u U3 =>
   cases V2 with
   | nil => exfalso; simp only [List.length_nil, List.length_cons] at *; omega
   | cons v V3 =>
    obtain ⟨i, hi⟩ : ∃ i, U1.length = i := ⟨_, rfl⟩
    rw [hi]
    simp only [List.length_cons] at lU lV
    have EL : P ++ (V1 ++ u :: U3) ++ M ++ (U1 ++ v :: V3) ++ Q = (P ++ V1) ++ u :: ((U3 ++ M ++ U1) ++ v :: (V3 ++ Q)) := by simp
    rw [EL] at HR
    have hA : (P ++ V1).length = a + i := by rw [List.length_append]; omega
    have hB : (P ++ V1).length + 1 + (U3 ++ M ++ U1).length = b + i := by simp only [List.length_append] at *; omega
    have HXu := zh (at2a (A := P ++ V1) (B := U3 ++ M ++ U1) (C := V3 ++ Q) (u := u) (v := v) hA)
    have HXv := zh (at2b (A := P ++ V1) (B := U3 ++ M ++ U1) (C := V3 ++ Q) (u := u) (v := v) hB)
    have HSW := zh (swap2 (A := P ++ V1) (B := U3 ++ M ++ U1) (C := V3 ++ Q) (u := u) (v := v) hA hB)
    have HSX := zh (swap2' (A := P ++ V1) (B := U3 ++ M ++ U1) (C := V3 ++ Q) (u := u) (v := v) hA hB)
    have EN : (P ++ V1) ++ v :: ((U3 ++ M ++ U1) ++ u :: (V3 ++ Q)) = P ++ ((V1 ++ [v]) ++ U3) ++ M ++ ((U1 ++ [u]) ++ V3) ++ Q := by simp
    have hLn : ((P ++ V1) ++ u :: ((U3 ++ M ++ U1) ++ v :: (V3 ++ Q))).length = n := by simp only [List.length_append, List.length_cons] at *; omega
    obtain ⟨Ls, hLs⟩ : ∃ Ls, (P ++ V1) ++ u :: ((U3 ++ M ++ U1) ++ v :: (V3 ++ Q)) = Ls := ⟨_, rfl⟩
    rw [hLs] at HR HXu HXv HSW HSX hLn
    rw [EN] at HSW HSX
    clear EN EL hA hB
    have hiq : i < q := by omega
    have hbn : b + i < n := by omega
    have ha9 : a + i < n := by omega
    have wa : IntKind.i64.wrap ((a : Int) + (i : Int)) = ((a + i : Nat) : Int) := by rw [IntWalk.i64_in _ (by omega)]; omega
    have wb : IntKind.i64.wrap ((b : Int) + (i : Int)) = ((b + i : Nat) : Int) := by rw [IntWalk.i64_in _ (by omega)]; omega
    have wA : (a : Int) + (i : Int) = ((a + i : Nat) : Int) := by omega
    have wB : (b : Int) + (i : Int) = ((b + i : Nat) : Int) := by omega
    have d1 : decide ((i : Int) < (q : Int)) = true := decide_eq_true (by omega)
    obtain ⟨p, hp⟩ : ∃ p, a + i = p := ⟨_, rfl⟩
    obtain ⟨r, hr⟩ : ∃ r, b + i = r := ⟨_, rfl⟩
    rw [hp] at wa wA HXu HSW HSX ha9
    rw [hr] at wb wB HXv HSW HSX hbn
    clear wA wB hp hr
    go_upto_region 3 with fail
    have HDRW := zh (Below.drew (Below.refl wr.heap.size wr))
    replace NG := zh (grown_trans NG.out (grown_of_below HDRW.out _))
    replace HR := zh (RW.next HR.out HDRW.out)
    clear HDRW
    have HAL : Hid (∀ kx9 : Nat, GK [(13, g, .cells (vrc Ls).toArray 67), (19, g, .cells (vrc Ls).toArray 67)] kx9 wr.drew) := zh (fun kx9 => fun px9 hp e => by
     simp only [List.mem_cons, List.not_mem_nil, or_false] at hp
     rcases hp with rfl | rfl
     ·exact HR.out
     ·exact HR.out
    )
    refine region_G (S := GK [(13, g, .cells (vrc Ls).toArray 67), (19, g, .cells (vrc Ls).toArray 67)]) (by kernel_rfl) ?_
    refine tP 0 (.slice (some ⟨g, 0, none⟩) n c) (some 16) rfl ?_ ?_
    ·intro X hX
     clear hX
     go_simp
     all_goals (first | (intro h9; exfalso; omega) | omega)
    try simp only [Act.put, zA, zB, zC]
    refine tP 1 (.int .i64 (a : Int)) (some 17) rfl ?_ ?_
    ·intro X hX
     clear hX
     go_simp
     all_goals (first | (intro h9; exfalso; omega) | omega)
    try simp only [Act.put, zA, zB, zC]
    refine tP 2 (.int .i64 (i : Int)) (some 18) rfl ?_ ?_
    ·intro X hX
     clear hX
     go_simp
     all_goals (first | (intro h9; exfalso; omega) | omega)
    try simp only [Act.put, zA, zB, zC]
    refine tP 3 (.int .i64 (p : Int)) (some 19) rfl ?_ ?_
    ·intro X hX
     clear hX
     go_simp
     all_goals (first | (intro h9; exfalso; omega) | omega)
    try simp only [Act.put, zA, zB, zC]
    refine tP 4 (.slice (some ⟨g, 0, none⟩) n c) (some 20) rfl ?_ ?_
    ·intro X hX
     clear hX
     go_simp
     all_goals (first | (intro h9; exfalso; omega) | omega)
    try simp only [Act.put, zA, zB, zC]
    refine tP 5 (.int .i64 (b : Int)) (some 21) rfl ?_ ?_
    ·intro X hX
     clear hX
     go_simp
     all_goals (first | (intro h9; exfalso; omega) | omega)
    try simp only [Act.put, zA, zB, zC]
    refine tP 6 (.int .i64 (i : Int)) (some 22) rfl ?_ ?_
    ·intro X hX
     clear hX
     go_simp
     all_goals (first | (intro h9; exfalso; omega) | omega)
    try simp only [Act.put, zA, zB, zC]
    refine tP 7 (.int .i64 (r : Int)) (some 23) rfl ?_ ?_
    ·intro X hX
     clear hX
     go_simp
     all_goals (first | (intro h9; exfalso; omega) | omega)
    try simp only [Act.put, zA, zB, zC]
    refine tP 8 (.slice (some ⟨g, 0, none⟩) n c) (some 24) rfl ?_ ?_
    ·intro X hX
     clear hX
     go_simp
     all_goals (first | (intro h9; exfalso; omega) | omega)
    try simp only [Act.put, zA, zB, zC]
    refine tP 9 (.int .i64 (b : Int)) (some 25) rfl ?_ ?_
    ·intro X hX
     clear hX
     go_simp
     all_goals (first | (intro h9; exfalso; omega) | omega)
    try simp only [Act.put, zA, zB, zC]
    refine tP 10 (.int .i64 (i : Int)) (some 26) rfl ?_ ?_
    ·intro X hX
     clear hX
     go_simp
     all_goals (first | (intro h9; exfalso; omega) | omega)
    try simp only [Act.put, zA, zB, zC]
    refine tP 11 (.int .i64 (r : Int)) (some 27) rfl ?_ ?_
    ·intro X hX
     clear hX
     go_simp
     all_goals (first | (intro h9; exfalso; omega) | omega)
    try simp only [Act.put, zA, zB, zC]
    refine tP 12 (.pointer (some ⟨g, r * 8, none⟩)) (some 28) rfl ?_ ?_
    ·intro X hX
     clear hX
     go_simp
     all_goals (first | (intro h9; exfalso; omega) | omega)
    try simp only [Act.put, zA, zB, zC]
    refine tG 13 (.agg #[.int .i64 v.t, .int .i64 v.c, .int .i64 v.i, .int .i64 v.j, .int .i64 v.re, .int .i64 v.im, .int .i64 v.dn, .int .i64 v.n]) (some 29) (GK.grow _) rfl (YieldsIf.toG (Or.inl ⟨by rfl, ?_⟩)) (HAL.out 13) ?_
    ·intro X hX
     have hh := hX (13, g, .cells (vrc Ls).toArray 67) (List.Mem.head _) rfl
     have hh0 := (RW.cell (show RW _ g Ls from hh) HXv.out 0 _ rfl)
     simp only [Nat.add_zero] at hh0
     have hh1 := (RW.cell (show RW _ g Ls from hh) HXv.out 1 _ rfl)
     have hh2 := (RW.cell (show RW _ g Ls from hh) HXv.out 2 _ rfl)
     have hh3 := (RW.cell (show RW _ g Ls from hh) HXv.out 3 _ rfl)
     have hh4 := (RW.cell (show RW _ g Ls from hh) HXv.out 4 _ rfl)
     have hh5 := (RW.cell (show RW _ g Ls from hh) HXv.out 5 _ rfl)
     have hh6 := (RW.cell (show RW _ g Ls from hh) HXv.out 6 _ rfl)
     have hh7 := (RW.cell (show RW _ g Ls from hh) HXv.out 7 _ rfl)
     have hhl := blk_lt hh
     clear hh
     clear hX
     go_simp
     all_goals (first | (intro h9; exfalso; omega) | omega)
    try simp only [Act.put, zA, zB, zC]
    refine tP 14 (.slice (some ⟨g, 0, none⟩) n c) (some 30) rfl ?_ ?_
    ·intro X hX
     clear hX
     go_simp
     all_goals (first | (intro h9; exfalso; omega) | omega)
    try simp only [Act.put, zA, zB, zC]
    refine tP 15 (.int .i64 (a : Int)) (some 31) rfl ?_ ?_
    ·intro X hX
     clear hX
     go_simp
     all_goals (first | (intro h9; exfalso; omega) | omega)
    try simp only [Act.put, zA, zB, zC]
    refine tP 16 (.int .i64 (i : Int)) (some 32) rfl ?_ ?_
    ·intro X hX
     clear hX
     go_simp
     all_goals (first | (intro h9; exfalso; omega) | omega)
    try simp only [Act.put, zA, zB, zC]
    refine tP 17 (.int .i64 (p : Int)) (some 33) rfl ?_ ?_
    ·intro X hX
     clear hX
     go_simp
     all_goals (first | (intro h9; exfalso; omega) | omega)
    try simp only [Act.put, zA, zB, zC]
    refine tP 18 (.pointer (some ⟨g, p * 8, none⟩)) (some 34) rfl ?_ ?_
    ·intro X hX
     clear hX
     go_simp
     all_goals (first | (intro h9; exfalso; omega) | omega)
    try simp only [Act.put, zA, zB, zC]
    refine tG 19 (.agg #[.int .i64 u.t, .int .i64 u.c, .int .i64 u.i, .int .i64 u.j, .int .i64 u.re, .int .i64 u.im, .int .i64 u.dn, .int .i64 u.n]) (some 35) (GK.grow _) rfl (YieldsIf.toG (Or.inl ⟨by rfl, ?_⟩)) (HAL.out 19) ?_
    ·intro X hX
     have hh := hX (19, g, .cells (vrc Ls).toArray 67) (List.Mem.tail _ (List.Mem.head _)) rfl
     have hh0 := (RW.cell (show RW _ g Ls from hh) HXu.out 0 _ rfl)
     simp only [Nat.add_zero] at hh0
     have hh1 := (RW.cell (show RW _ g Ls from hh) HXu.out 1 _ rfl)
     have hh2 := (RW.cell (show RW _ g Ls from hh) HXu.out 2 _ rfl)
     have hh3 := (RW.cell (show RW _ g Ls from hh) HXu.out 3 _ rfl)
     have hh4 := (RW.cell (show RW _ g Ls from hh) HXu.out 4 _ rfl)
     have hh5 := (RW.cell (show RW _ g Ls from hh) HXu.out 5 _ rfl)
     have hh6 := (RW.cell (show RW _ g Ls from hh) HXu.out 6 _ rfl)
     have hh7 := (RW.cell (show RW _ g Ls from hh) HXu.out 7 _ rfl)
     have hhl := blk_lt hh
     clear hh
     clear hX
     go_simp
     all_goals (first | (intro h9; exfalso; omega) | omega)
    try simp only [Act.put, zA, zB, zC]
    refine tP 20 (.pointer (some ⟨g, p * 8, none⟩)) (some 36) rfl ?_ ?_
    ·intro X hX
     clear hX
     go_simp
     all_goals (first | (intro h9; exfalso; omega) | omega)
    try simp only [Act.put, zA, zB, zC]
    refine only_G 21 (by kernel_rfl) rfl (fun X1 hX K' hK' => ?_)
    replace NG := zh (grown_trans NG.out (grown_of_below hX _))
    replace HR := zh (RW.next HR.out hX)
    replace HAL := zh (fun kx9 => GK.grow _ _ _ _ (HAL.out kx9) hX)
    clear hX
    rw [if_pos (by rfl)]
    refine wp_store_row _ _ rfl g (p) _ v rfl rfl HR.out (by first | (simp only [List.length_set]; omega) | omega) ?_
    refine hK'.out _ _ (fun kk hk hS => ?_) ?_
    ·have HN : ∀ px9 ∈ ([(13, g, .cells (vrc Ls).toArray 67), (19, g, .cells (vrc Ls).toArray 67)] : List (Nat × Nat × Obj)), px9.1 = kk → px9.2.1 ≠ g := fun px9 hp e => by
      simp only [List.mem_cons, List.not_mem_nil, or_false] at hp
      rcases hp with rfl | rfl
      ·subst e; exact bfl (by kernel_rfl) hk
      ·subst e; exact bfl (by kernel_rfl) hk
     exact GK.setCells hS HN _ _
    clear hK' K'
    try simp only [Act.put, zA, zB, zC]
    clear HAL
    replace NG : Hid (w.grownBy (X1.setCells g ((p) * 8) (vr8 v)) (some g)) := zh (grown_trans NG.out (setCells_grown _ _ _ _))
    replace HR := zh (RW.set HR.out (j := p) (by first | (simp only [List.length_set]; omega) | omega) v)
    generalize (X1.setCells g ((p) * 8) (vr8 v)) = Wq2 at *
    refine tP 22 (.pointer (some ⟨g, r * 8, none⟩)) (some 37) rfl ?_ ?_
    ·intro X hX
     clear hX
     go_simp
     all_goals (first | (intro h9; exfalso; omega) | omega)
    try simp only [Act.put, zA, zB, zC]
    refine only_G 23 (by kernel_rfl) rfl (fun X3 hX K' hK' => ?_)
    replace NG := zh (grown_trans NG.out (grown_of_below hX _))
    replace HR := zh (RW.next HR.out hX)
    skip
    clear hX
    rw [if_pos (by rfl)]
    refine wp_store_row _ _ rfl g (r) _ u rfl rfl HR.out (by first | (simp only [List.length_set]; omega) | omega) ?_
    refine hK'.out _ _ (fun kk hk hS => ?_) ?_
    ·have HN : ∀ px9 ∈ ([(13, g, .cells (vrc Ls).toArray 67), (19, g, .cells (vrc Ls).toArray 67)] : List (Nat × Nat × Obj)), px9.1 = kk → px9.2.1 ≠ g := fun px9 hp e => by
      simp only [List.mem_cons, List.not_mem_nil, or_false] at hp
      rcases hp with rfl | rfl
      ·subst e; exact bfl (by kernel_rfl) hk
      ·subst e; exact bfl (by kernel_rfl) hk
     exact GK.setCells hS HN _ _
    clear hK' K'
    try simp only [Act.put, zA, zB, zC]
    replace NG : Hid (w.grownBy (X3.setCells g ((r) * 8) (vr8 u)) (some g)) := zh (grown_trans NG.out (setCells_grown _ _ _ _))
    replace HR := zh (RW.set HR.out (j := r) (by first | (simp only [List.length_set]; omega) | omega) u)
    generalize (X3.setCells g ((r) * 8) (vr8 u)) = Wq4 at *
    refine done_G (by kernel_rfl) (fun X5 hX => ?_) _
    replace NG := zh (grown_trans NG.out (grown_of_below hX _))
    replace HR := zh (RW.next HR.out hX)
    clear hX
    first | (replace HR := zh (HSW.out ▸ HR.out); skip) | (replace HR := zh (HSX.out ▸ HR.out); skip)
    go_wp2_with fail
    go_roundw
    case rel => exact ⟨U1 ++ [u], U3, V1 ++ [v], V3, by rw [List.length_append, List.length_singleton, hi]; go_num, zh (by rw [HU.out]; simp), zh (by rw [HV.out]; simp), by simp only [List.length_append, List.length_singleton]; omega, HR, NG⟩
    case measure => simp [intOf]; omega
theorem swr0_calls {g n c a b q : Nat} {P U V Q : List Vr} {w : World} (hn : (P ++ U ++ V ++ Q).length = n) (hx : RW w g (P ++ U ++ V ++ Q)) (hnc : n ≤ c) (hc : c ≤ 9223372036854775807) (hb9 : n ≤ 100000) (ha : P.length = a) (hU : U.length = q) (hV : V.length = q) (hb : a + q = b) :
  Calls Tryz.prog 144 #[.slice (some ⟨g, 0, none⟩) n c, .int .i64 a, .int .i64 b, .int .i64 q, CmpV] w fun e w' => (∃ v, e = .returned v) ∧ w.grownBy w' (some g) ∧ RW w' g (P ++ V ++ U ++ Q) := by
 have := swr_calls (P := P) (U := U) (M := []) (V := V) (Q := Q) (a := a) (b := b) (q := q) (by simpa using hn) (by simpa using hx) hnc hc hb9 ha hU hV (by simpa using hb)
 simpa using this
theorem rot_calls {g n c a m b : Nat} {P U V Q : List Vr} {w : World} (hn : (P ++ U ++ V ++ Q).length = n) (hx : RW w g (P ++ U ++ V ++ Q)) (hnc : n ≤ c) (hc : c ≤ 9223372036854775807) (hb9 : n ≤ 100000) (ha : P.length = a) (hm : a + U.length = m) (hb : m + V.length = b) (hU : 0 < U.length) (hV : 0 < V.length) :
  Calls Tryz.prog 125 #[.slice (some ⟨g, 0, none⟩) n c, .int .i64 a, .int .i64 m, .int .i64 b, CmpV] w fun e w' => (∃ v, e = .returned v) ∧ w.grownBy w' (some g) ∧ RW w' g (P ++ V ++ U ++ Q) := by
 have NN := zh (grown_refl w (some g))
 have HX := zh hx
 have hln : P.length + U.length + V.length + Q.length = n := by simp only [List.length_append] at hn; omega
 have w1 : IntKind.i64.wrap ((m : Int) - (a : Int)) = (U.length : Int) := by rw [IntWalk.i64_in _ (by omega)]; omega
 have w2 : IntKind.i64.wrap ((b : Int) - (m : Int)) = (V.length : Int) := by rw [IntWalk.i64_in _ (by omega)]; omega
 have HN := zh hn
 clear hx hn
 go_enter Tryz.func125, Tryz.ntmps125
 go_wp2_with fail
 clear w1 w2
 go_loopw [10, 11] (fun i j wr => ∃ (P1 U1 V1 Q1 : List Vr), i = .int .i64 (U1.length : Int) ∧ j = .int .i64 (V1.length : Int) ∧ P1.length + U1.length = m ∧ 0 < U1.length ∧ 0 < V1.length ∧ (P1 ++ U1 ++ V1 ++ Q1).length = n ∧ Hid (P1 ++ V1 ++ U1 ++ Q1 = P ++ V ++ U ++ Q) ∧ Hid (RW wr g (P1 ++ U1 ++ V1 ++ Q1)) ∧ Hid (w.grownBy wr (some g))) (fun i j _ => (intOf i).toNat + (intOf j).toNat)
 case atStart => exact ⟨P, U, V, Q, rfl, rfl, by omega, hU, hV, HN.out, zh rfl, HX, NN⟩
 case round =>
  clear NN HX HN
  obtain ⟨P1, U1, V1, Q1, rfl, rfl, hp1, hu1, hv1, hn1, HT, HR, NG⟩ := hrel
  obtain ⟨i, hi⟩ : ∃ i, U1.length = i := ⟨_, rfl⟩
  obtain ⟨j, hj⟩ : ∃ j, V1.length = j := ⟨_, rfl⟩
  obtain ⟨p, hp⟩ : ∃ p, P1.length = p := ⟨_, rfl⟩
  rw [hi, hj]
  rw [hi, hp] at hp1
  rw [hi] at hu1
  rw [hj] at hv1
  have hsum : p + i + j + Q1.length = n := by simp only [List.length_append] at hn1; omega
  have wp : IntKind.i64.wrap ((m : Int) - (i : Int)) = (p : Int) := by rw [IntWalk.i64_in _ (by omega)]; omega
  have hij : i = j ∨ (i ≠ j ∧ j < i) ∨ (i ≠ j ∧ i < j) := by omega
  rcases hij with h | ⟨h, h'⟩ | ⟨h, h'⟩
  ·subst h
   have q1 : ((i : Int) != (i : Int)) = false := by simp
   have HI := zh hi
   have HJ := zh hj
   have HP := zh hp
   have HN1 := zh hn1
   clear hi hj hp hn1
   go_wp2_with fail
   refine (swr0_calls (P := P1) (U := U1) (V := V1) (Q := Q1) (a := p) (b := m) (q := i) HN1.out HR.out hnc hc hb9 HP.out HI.out HJ.out hp1).mono ?_
   rintro e w9 ⟨⟨v, rfl⟩, hg9, hr9⟩
   rw [HT.out] at hr9
   have HR9 := zh hr9
   have NG9 := zh (grown_trans NG.out hg9)
   clear hr9 hg9
   go_wp2_with fail
   go_end0
   exact ⟨⟨_, rfl⟩, NG9.out, HR9.out⟩
  ·have q1 : ((i : Int) != (j : Int)) = true := by rw [bne_iff_ne]; omega
   have q2 : decide ((j : Int) < (i : Int)) = true := decide_eq_true (by omega)
   have wd : IntKind.i64.wrap ((i : Int) - (j : Int)) = ((i - j : Nat) : Int) := by rw [IntWalk.i64_in _ (by omega)]; omega
   obtain ⟨X, Y, hXY, hXl⟩ : ∃ X Y, U1 = X ++ Y ∧ X.length = j := ⟨U1.take j, U1.drop j, (List.take_append_drop j U1).symm, by rw [List.length_take]; omega⟩
   have hYl : Y.length = i - j := by have := congrArg List.length hXY; rw [List.length_append] at this; omega
   subst hXY
   have HI := zh hi
   have HJ := zh hj
   have HP := zh hp
   have HN1 := zh hn1
   clear hi hj hp hn1
   have HXL := zh hXl
   have HYL := zh hYl
   clear hXl hYl
   go_wp2_with fail
   refine (swr_calls (P := P1) (U := X) (M := Y) (V := V1) (Q := Q1) (a := p) (b := m) (q := j) (by have h := HN1.out; simpa using h) (by have h := HR.out; simpa using h) hnc hc hb9 HP.out HXL.out HJ.out (by have := HYL.out; omega)).mono ?_
   rintro e w9 ⟨⟨v, rfl⟩, hg9, hr9⟩
   have HR9 := zh hr9
   have NG9 := zh (grown_trans NG.out hg9)
   clear hr9 hg9
   go_wp2_with fail
   go_roundw
   case rel => exact ⟨P1 ++ V1, Y, X, Q1, by rw [HYL.out], by rw [HXL.out], by rw [List.length_append, HP.out, HJ.out, HYL.out]; omega, by rw [HYL.out]; omega, by rw [HXL.out]; omega, by have h1 := HP.out; have h2 := HJ.out; have h3 := HYL.out; have h4 := HXL.out; simp only [List.length_append]; omega, zh (by rw [← HT.out]; simp), zh (by have h := HR9.out; simpa using h), NG9⟩
   case measure => simp [intOf]; omega
  ·have q1 : ((i : Int) != (j : Int)) = true := by rw [bne_iff_ne]; omega
   have q2 : decide ((j : Int) < (i : Int)) = false := decide_eq_false (by omega)
   have wd : IntKind.i64.wrap ((j : Int) - (i : Int)) = ((j - i : Nat) : Int) := by rw [IntWalk.i64_in _ (by omega)]; omega
   obtain ⟨s, hs⟩ : ∃ s, m + j = s := ⟨_, rfl⟩
   have ws : IntKind.i64.wrap ((m : Int) + (j : Int)) = (s : Int) := by rw [IntWalk.i64_in _ (by omega)]; omega
   obtain ⟨t, ht⟩ : ∃ t, p + i + (j - i) = t := ⟨_, rfl⟩
   have wt : IntKind.i64.wrap ((s : Int) - (i : Int)) = (t : Int) := by rw [IntWalk.i64_in _ (by omega)]; omega
   have HTT := zh ht
   clear ht hs
   obtain ⟨X, Y, hXY, hXl⟩ : ∃ X Y, V1 = X ++ Y ∧ X.length = j - i := ⟨V1.take (j - i), V1.drop (j - i), (List.take_append_drop (j - i) V1).symm, by rw [List.length_take]; omega⟩
   have hYl : Y.length = i := by have := congrArg List.length hXY; rw [List.length_append] at this; omega
   subst hXY
   have HI := zh hi
   have HJ := zh hj
   have HP := zh hp
   have HN1 := zh hn1
   clear hi hj hp hn1
   have HXL := zh hXl
   have HYL := zh hYl
   clear hXl hYl
   go_wp2_with fail
   refine (swr_calls (P := P1) (U := U1) (M := X) (V := Y) (Q := Q1) (a := p) (b := t) (q := i) (by have h := HN1.out; simpa using h) (by have h := HR.out; simpa using h) hnc hc hb9 HP.out HI.out HYL.out (by have := HXL.out; have := HTT.out; omega)).mono ?_
   rintro e w9 ⟨⟨v, rfl⟩, hg9, hr9⟩
   have HR9 := zh hr9
   have NG9 := zh (grown_trans NG.out hg9)
   clear hr9 hg9
   go_wp2_with fail
   go_roundw
   case rel => exact ⟨P1, Y, X, U1 ++ Q1, by rw [HYL.out], by rw [HXL.out], by rw [HP.out, HYL.out]; omega, by rw [HYL.out]; omega, by rw [HXL.out]; omega, by have h1 := HP.out; have h2 := HI.out; have h3 := HYL.out; have h4 := HXL.out; simp only [List.length_append]; omega, zh (by rw [← HT.out]; simp), zh (by have h := HR9.out; simpa using h), NG9⟩
   case measure => simp [intOf]; omega
end
end Go.Proofs.YtbbnkclajpaghaaGreatDoor
