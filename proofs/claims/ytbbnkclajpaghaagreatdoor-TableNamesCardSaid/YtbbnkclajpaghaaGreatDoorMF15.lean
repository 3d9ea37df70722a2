/- Several texts in one. -/
import Derived.Test.YtbbnkclajpaghaaGreatDoorMF04
import Derived.Test.YtbbnkclajpaghaaGreatDoorMF07
import Derived.Test.YtbbnkclajpaghaaGreatDoorMF12
import Derived.Test.YtbbnkclajpaghaaGreatDoorMF14
set_option maxHeartbeats 8000000
set_option maxRecDepth 100000
set_option linter.unusedVariables false
set_option linter.unusedSimpArgs false
namespace Go.Proofs.YtbbnkclajpaghaaGreatDoor
section
open Go.ChangeShapes Go.WideShapes Go.ChangeAt Go.RowKit
attribute [local go_sem ↓] Go.wp_at_zero Go.wp_at_succ
def vr6 (r : Vr) : List Value := [.int .i64 r.i, .int .i64 r.j, .int .i64 r.re, .int .i64 r.im, .int .i64 r.dn, .int .i64 r.n]
theorem vr6_len (r : Vr) : (vr6 r).length = 6 := rfl
theorem vr6_one (l : List Vr) : ∀ u ∈ l.flatMap vr6, u.oneCell' = true := by
 intro u hu
 obtain ⟨s, _, hs⟩ := List.mem_flatMap.1 hu
 simp [vr6] at hs
 rcases hs with rfl | rfl | rfl | rfl | rfl | rfl <;> rfl
abbrev RV6 (w : World) (A : Option Addr) (l : List Vr) : Prop := Rd w 6 A l.length (l.flatMap vr6)
theorem RV6.at_ {w : World} {A : Option Addr} {l : List Vr} (h : RV6 w A l) {i : Nat} (hi : i < l.length) : ∃ b off, A = some ⟨b, off, none⟩ ∧ b < w.heap.size ∧
  w.cell? ⟨b, off + i * 6, none⟩ = some (.int .i64 (rowAt l i).i) ∧ w.cell? ⟨b, off + i * 6 + 1, none⟩ = some (.int .i64 (rowAt l i).j) ∧ w.cell? ⟨b, off + i * 6 + 2, none⟩ = some (.int .i64 (rowAt l i).re) ∧ w.cell? ⟨b, off + i * 6 + 3, none⟩ = some (.int .i64 (rowAt l i).im) ∧
  w.cell? ⟨b, off + i * 6 + 4, none⟩ = some (.int .i64 (rowAt l i).dn) ∧ w.cell? ⟨b, off + i * 6 + 5, none⟩ = some (.int .i64 (rowAt l i).n) := by
 rw [rowAt_lt hi]
 obtain ⟨b, off, e, hl, hc⟩ := Rd.at_ (n := 0) h vr6_len hi
 exact ⟨b, off, e, hl, hc 0 _ rfl, hc 1 _ rfl, hc 2 _ rfl, hc 3 _ rfl, hc 4 _ rfl, hc 5 _ rfl⟩
theorem set2_grown (W : World) (g : Nat) (a b : Value) : W.grownBy ((W.setCell ⟨g, 0, none⟩ a).setCell ⟨g, 1, none⟩ b) (some g) := setCells_grown g [a, b] 0 W
theorem part_re (r : Vr) (w : World) : Calls Tryz.prog 103 #[Cv r] w fun e w' => e = .returned (.int .i64 r.re) ∧ Below w.heap.size w w' := by
 have NN := zh (Below.refl w.heap.size w)
 go_enter Tryz.func103, Tryz.ntmps103
 go_wp2_with fail
 have V : Hid ((w.alloc (.cells #[.int .i64 r.re, .int .i64 r.im, .int .i64 r.dn] 40)).heap[w.heap.size]? = some (.cells #[.int .i64 r.re, .int .i64 r.im, .int .i64 r.dn] 40)) := zh (blk_new w _)
 replace NN : Hid (Below w.heap.size w (w.alloc (.cells #[.int .i64 r.re, .int .i64 r.im, .int .i64 r.dn] 40))) := zh (Bal NN.out _)
 generalize (w.alloc (.cells #[.int .i64 r.re, .int .i64 r.im, .int .i64 r.dn] 40)) = W1 at *
 obtain ⟨c_V_0, f_V_0, c_V_1, f_V_1, c_V_2, f_V_2, l_V⟩ := zfl3 V
 go_wp2_with fail
 clear c_V_0 f_V_0 c_V_1 f_V_1 c_V_2 f_V_2 l_V
 go_ret
 exact ⟨rfl, NN.out⟩
theorem part_im (r : Vr) (w : World) : Calls Tryz.prog 104 #[Cv r] w fun e w' => e = .returned (.int .i64 r.im) ∧ Below w.heap.size w w' := by
 have NN := zh (Below.refl w.heap.size w)
 go_enter Tryz.func104, Tryz.ntmps104
 go_wp2_with fail
 have V : Hid ((w.alloc (.cells #[.int .i64 r.re, .int .i64 r.im, .int .i64 r.dn] 40)).heap[w.heap.size]? = some (.cells #[.int .i64 r.re, .int .i64 r.im, .int .i64 r.dn] 40)) := zh (blk_new w _)
 replace NN : Hid (Below w.heap.size w (w.alloc (.cells #[.int .i64 r.re, .int .i64 r.im, .int .i64 r.dn] 40))) := zh (Bal NN.out _)
 generalize (w.alloc (.cells #[.int .i64 r.re, .int .i64 r.im, .int .i64 r.dn] 40)) = W1 at *
 obtain ⟨c_V_0, f_V_0, c_V_1, f_V_1, c_V_2, f_V_2, l_V⟩ := zfl3 V
 go_wp2_with fail
 clear c_V_0 f_V_0 c_V_1 f_V_1 c_V_2 f_V_2 l_V
 go_ret
 exact ⟨rfl, NN.out⟩
theorem add_re {r : Vr} {n d : Int} {gp gs : Nat} {w : World} (hr : visB r = true) (hv : VF n d) (hp : w.heap[gp]? = some (.cells #[.func (.func 103) #[] #[]] 160)) (hs : w.heap[gs]? = some (.cells #[.int .i64 n, .int .i64 d] 83)) (hne : gp ≠ gs) :
  Calls Tryz.prog 126 #[Wv r, .pointer (some ⟨gp, 0, none⟩), .pointer (some ⟨gs, 0, none⟩)] w fun e w' => e = .returned (.int .i64 (rnd false n d r).2.2) ∧ w.grownBy w' (some gs) ∧ ((rnd false n d r).2.2 = 0 → w'.heap[gs]? = some (.cells #[.int .i64 (rnd false n d r).1, .int .i64 (rnd false n d r).2.1] 83)) := by
 have NN := zh (Below.refl w.heap.size w)
 have P := zh hp
 have S := zh hs
 obtain ⟨pb1, pb2, xn, xd, hm, vx, -⟩ := pt_val false hr
 have h0 := vis_val hr
 have CM := zh (fun W => make_calls (ptN false r) r.dn W (by omega) (by omega) (by omega) (by omega))
 have CP := zh (fun W => mul_calls r.n 1 xn xd W)
 obtain ⟨pn, pd, pe, hpm⟩ : ∃ pn pd pe, mulR r.n 1 xn xd = (pn, pd, pe) := ⟨_, _, _, rfl⟩
 have CS := zh (fun W => add_calls n d pn pd W)
 obtain ⟨sn, sd, se, hsm⟩ : ∃ sn sd se, addR n d pn pd = (sn, sd, se) := ⟨_, _, _, rfl⟩
 have RR : Hid (rnd false n d r = if pe ≠ 0 then (0, 0, pe) else (sn, sd, se)) := zh (by unfold rnd; rw [hm]; simp only; rw [hpm]; simp only; rw [hsm])
 have PC := zh (part_re r)
 rw [hm] at CM
 rw [hpm] at CP
 rw [hsm] at CS
 have ep : ptN false r = r.re := rfl
 rw [ep] at CM
 generalize rnd false n d r = R at *
 clear hp hs hr hv hm hpm hsm vx pb1 pb2 h0 ep
 have hlp := blk_lt P.out
 have hls := blk_lt S.out
 go_enter Tryz.func126, Tryz.ntmps126
 go_wp2_with fail
 have V : Hid ((w.alloc (.cells #[.int .i64 r.i, .int .i64 r.j, .int .i64 r.re, .int .i64 r.im, .int .i64 r.dn, .int .i64 r.n] 42)).heap[w.heap.size]? = some (.cells #[.int .i64 r.i, .int .i64 r.j, .int .i64 r.re, .int .i64 r.im, .int .i64 r.dn, .int .i64 r.n] 42)) := zh (blk_new w _)
 have HB := zh (Bal (Below.refl w.heap.size w) (.cells #[.int .i64 r.i, .int .i64 r.j, .int .i64 r.re, .int .i64 r.im, .int .i64 r.dn, .int .i64 r.n] 42))
 replace NN := zh (Bgo NN.out HB.out)
 replace P := zn HB P
 replace S := zn HB S
 clear HB
 generalize w.alloc (.cells #[.int .i64 r.i, .int .i64 r.j, .int .i64 r.re, .int .i64 r.im, .int .i64 r.dn, .int .i64 r.n] 42) = W1 at *
 have HDRW := zh (Below.drew (Below.refl W1.heap.size W1))
 replace NN := zh (Bgo NN.out HDRW.out)
 replace P := zn HDRW P
 replace S := zn HDRW S
 replace V := zn HDRW V
 clear HDRW
 have HAL : Hid (∀ kx9 : Nat, GK [(0, gp, .cells #[.func (.func 103) #[] #[]] 160), (2, w.heap.size, .cells #[.int .i64 r.i, .int .i64 r.j, .int .i64 r.re, .int .i64 r.im, .int .i64 r.dn, .int .i64 r.n] 42), (6, w.heap.size, .cells #[.int .i64 r.i, .int .i64 r.j, .int .i64 r.re, .int .i64 r.im, .int .i64 r.dn, .int .i64 r.n] 42)] kx9 W1.drew) := zh (fun kx9 => fun px9 hp e => by
  simp only [List.mem_cons, List.not_mem_nil, or_false] at hp
  rcases hp with rfl | rfl | rfl
  ·exact P.out
  ·exact V.out
  ·exact V.out
 )
 refine region_G (S := GK [(0, gp, .cells #[.func (.func 103) #[] #[]] 160), (2, w.heap.size, .cells #[.int .i64 r.i, .int .i64 r.j, .int .i64 r.re, .int .i64 r.im, .int .i64 r.dn, .int .i64 r.n] 42), (6, w.heap.size, .cells #[.int .i64 r.i, .int .i64 r.j, .int .i64 r.re, .int .i64 r.im, .int .i64 r.dn, .int .i64 r.n] 42)]) (by kernel_rfl) ?_
 refine tG 0 (.func (.func 103) #[] #[]) (some 9) (GK.grow _) rfl (YieldsIf.toG (Or.inl ⟨by rfl, ?_⟩)) (HAL.out 0) ?_
 ·intro X hX
  have hh := hX (0, gp, .cells #[.func (.func 103) #[] #[]] 160) (List.Mem.head _) rfl
  have hh0 := blk_cell hh 0 _ rfl
  have hhl := blk_lt hh
  clear hh
  clear hX
  go_simp
 try simp only [Act.put, zA, zB, zC]
 refine tP 1 (.pointer (some ⟨w.heap.size, 2, none⟩)) (some 10) rfl ?_ ?_
 ·intro X hX
  clear hX
  go_simp
 try simp only [Act.put, zA, zB, zC]
 refine tG 2 (.agg #[.int .i64 r.re, .int .i64 r.im, .int .i64 r.dn]) (some 11) (GK.grow _) rfl (YieldsIf.toG (Or.inl ⟨by rfl, ?_⟩)) (HAL.out 2) ?_
 ·intro X hX
  have hh := hX (2, w.heap.size, .cells #[.int .i64 r.i, .int .i64 r.j, .int .i64 r.re, .int .i64 r.im, .int .i64 r.dn, .int .i64 r.n] 42) (List.Mem.tail _ (List.Mem.head _)) rfl
  have hh0 := blk_cell hh 2 _ rfl
  have hh1 := blk_cell hh 3 _ rfl
  have hh2 := blk_cell hh 4 _ rfl
  have hhl := blk_lt hh
  clear hh
  clear hX
  go_simp
 try simp only [Act.put, zA, zB, zC]
 have CFn : ∀ (args : Array Value) (W : World), Sem.run Tryz.prog (callFunc 103 args) W = .ok (.enter 103 args) W := fun _ _ => by kernel_rfl
 refine tG 3 (.int .i64 r.re) (some 12) (GK.grow _) rfl (yieldsG_call 103 #[.agg #[.int .i64 r.re, .int .i64 r.im, .int .i64 r.dn]] (by rfl) ?_ (fun X hS => PC.out X)) (GK.drop (by simp)) ?_
 ·intro X hX
  clear hX
  go_simp
 clear CFn
 try simp only [Act.put, zA, zB, zC]
 refine tP 4 (.pointer (some ⟨w.heap.size, 2, none⟩)) (some 13) rfl ?_ ?_
 ·intro X hX
  clear hX
  go_simp
 try simp only [Act.put, zA, zB, zC]
 refine tP 5 (.pointer (some ⟨w.heap.size, 4, none⟩)) (some 14) rfl ?_ ?_
 ·intro X hX
  clear hX
  go_simp
 try simp only [Act.put, zA, zB, zC]
 refine tG 6 (.int .i64 r.dn) (some 15) (GK.grow _) rfl (YieldsIf.toG (Or.inl ⟨by rfl, ?_⟩)) (HAL.out 6) ?_
 ·intro X hX
  have hh := hX (6, w.heap.size, .cells #[.int .i64 r.i, .int .i64 r.j, .int .i64 r.re, .int .i64 r.im, .int .i64 r.dn, .int .i64 r.n] 42) (List.Mem.tail _ (List.Mem.tail _ (List.Mem.head _))) rfl
  have hh0 := blk_cell hh 4 _ rfl
  have hhl := blk_lt hh
  clear hh
  clear hX
  go_simp
 try simp only [Act.put, zA, zB, zC]
 have CFn : ∀ (args : Array Value) (W : World), Sem.run Tryz.prog (callFunc 78 args) W = .ok (.enter 78 args) W := fun _ _ => by kernel_rfl
 refine tG 7 (.tuple #[.agg #[.int .i64 xn, .int .i64 xd], .int .i64 0]) (some 16) (GK.grow _) rfl (yieldsG_call 78 #[.int .i64 r.re, .int .i64 r.dn] (by rfl) ?_ (fun X hS => CM.out X)) (GK.drop (by simp)) ?_
 ·intro X hX
  clear hX
  go_simp
 clear CFn
 try simp only [Act.put, zA, zB, zC]
 refine tP 8 (.tuple #[.agg #[.int .i64 xn, .int .i64 xd], .int .i64 0]) (some 8) rfl ?_ ?_
 ·intro X hX
  clear hX
  go_simp
 try simp only [Act.put, zA, zB, zC]
 refine tP 9 (.agg #[.int .i64 xn, .int .i64 xd]) (some 17) rfl ?_ ?_
 ·intro X hX
  clear hX
  go_simp
 try simp only [Act.put, zA, zB, zC]
 refine tP 10 (.int .i64 0) (some 18) rfl ?_ ?_
 ·intro X hX
  clear hX
  go_simp
 try simp only [Act.put, zA, zB, zC]
 refine only_G 11 (by kernel_rfl) rfl (fun X1 hX K' hK' => ?_)
 replace NN := zh (Bgo NN.out hX)
 replace P := zn hX P
 replace S := zn hX S
 replace V := zn hX V
 replace HAL := zh (fun kx9 => GK.grow _ _ _ _ (HAL.out kx9) hX)
 clear hX
 go_simp
 refine hK'.out _ _ (fun _ _ h => h.alloc _) ?_
 clear hK' K'
 try simp only [Act.put, zA, zB, zC]
 have HB := zh (Bal (Below.refl X1.heap.size X1) (.cells #[.int .i64 0, .int .i64 0] 83))
 have X : Hid ((X1.alloc (.cells #[.int .i64 0, .int .i64 0] 83)).heap[X1.heap.size]? = some (.cells #[.int .i64 0, .int .i64 0] 83)) := zh (blk_new X1 (.cells #[.int .i64 0, .int .i64 0] 83))
 have LT_X : Hid (gp < X1.heap.size ∧ gs < X1.heap.size ∧ w.heap.size < X1.heap.size ∧ w.heap.size ≤ X1.heap.size) := zh ⟨blk_lt P.out, blk_lt S.out, blk_lt V.out, NN.out.size⟩
 replace NN := zh (Bgo NN.out HB.out)
 replace P := zn HB P
 replace S := zn HB S
 replace V := zn HB V
 replace HAL := zh (fun kx9 => GK.grow _ _ _ _ (HAL.out kx9) HB.out)
 clear HB
 generalize X1.alloc (.cells #[.int .i64 0, .int .i64 0] 83) = W2 at *
 generalize X1.heap.size = gX at *
 refine only_G 12 (by kernel_rfl) rfl (fun X3 hX K' hK' => ?_)
 replace NN := zh (Bgo NN.out hX)
 replace P := zn hX P
 replace S := zn hX S
 replace V := zn hX V
 replace X := zn hX X
 replace HAL := zh (fun kx9 => GK.grow _ _ _ _ (HAL.out kx9) hX)
 clear hX
 obtain ⟨c_X_0, f_X_0, c_X_1, f_X_1, l_X⟩ := zfl2 X
 go_simp
 clear c_X_0 f_X_0 c_X_1 f_X_1 l_X
 refine hK'.out _ _ (fun kk hk hS => ?_) ?_
 ·have HN : ∀ px9 ∈ ([(0, gp, .cells #[.func (.func 103) #[] #[]] 160), (2, w.heap.size, .cells #[.int .i64 r.i, .int .i64 r.j, .int .i64 r.re, .int .i64 r.im, .int .i64 r.dn, .int .i64 r.n] 42), (6, w.heap.size, .cells #[.int .i64 r.i, .int .i64 r.j, .int .i64 r.re, .int .i64 r.im, .int .i64 r.dn, .int .i64 r.n] 42)] : List (Nat × Nat × Obj)), px9.1 = kk → px9.2.1 ≠ gX := fun px9 hp e => by
   simp only [List.mem_cons, List.not_mem_nil, or_false] at hp
   rcases hp with rfl | rfl | rfl
   ·subst e
    exact bfl (by kernel_rfl) hk
   ·subst e
    exact bfl (by kernel_rfl) hk
   ·subst e
    exact bfl (by kernel_rfl) hk
  exact GK.set (GK.set hS HN) HN
 clear hK' K'
 try simp only [Act.put, zA, zB, zC]
 clear HAL
 generalize hW : ((X3.setCell ⟨gX, 0, none⟩ (.int .i64 xn)).setCell ⟨gX, 1, none⟩ (.int .i64 xd)) = W4 at *
 replace P : Hid (W4.heap[gp]? = some (.cells #[.func (.func 103) #[] #[]] 160)) := zs hW (blk_set_other (blk_set_other (P.out) (by have := LT_X.out; omega) 0 (.int .i64 xn)) (by have := LT_X.out; omega) 1 (.int .i64 xd))
 replace S : Hid (W4.heap[gs]? = some (.cells #[.int .i64 n, .int .i64 d] 83)) := zs hW (blk_set_other (blk_set_other (S.out) (by have := LT_X.out; omega) 0 (.int .i64 xn)) (by have := LT_X.out; omega) 1 (.int .i64 xd))
 replace V : Hid (W4.heap[w.heap.size]? = some (.cells #[.int .i64 r.i, .int .i64 r.j, .int .i64 r.re, .int .i64 r.im, .int .i64 r.dn, .int .i64 r.n] 42)) := zs hW (blk_set_other (blk_set_other (V.out) (by have := LT_X.out; omega) 0 (.int .i64 xn)) (by have := LT_X.out; omega) 1 (.int .i64 xd))
 replace X : Hid (W4.heap[gX]? = some (.cells #[.int .i64 xn, .int .i64 xd] 83)) := zs hW (blk_set (blk_set (X.out) 0 (.int .i64 xn)) 1 (.int .i64 xd))
 replace NN := zt hW (p := Below _ _) (Bset1 (Bset1 (NN.out) (by have := LT_X.out; omega) 0 (.int .i64 xn)) (by have := LT_X.out; omega) 1 (.int .i64 xd))
 clear hW
 refine tP 13 (.int .i64 0) (some 6) rfl ?_ ?_
 ·intro X hX
  clear hX
  go_simp
 try simp only [Act.put, zA, zB, zC]
 refine done_G (by kernel_rfl) (fun X5 hX => ?_) _
 replace NN := zh (Bgo NN.out hX)
 replace P := zn hX P
 replace S := zn hX S
 replace V := zn hX V
 replace X := zn hX X
 clear hX
 clear P
 obtain ⟨c_V_0, f_V_0, c_V_1, f_V_1, c_V_2, f_V_2, c_V_3, f_V_3, c_V_4, f_V_4, c_V_5, f_V_5, l_V⟩ := zfl6 V
 obtain ⟨c_X_0, f_X_0, c_X_1, f_X_1, l_X⟩ := zfl2 X
 go_wp2_with fail
 clear c_V_0 f_V_0 c_V_1 f_V_1 c_V_2 f_V_2 c_V_3 f_V_3 c_V_4 f_V_4 c_V_5 f_V_5 l_V c_X_0 f_X_0 c_X_1 f_X_1 l_X
 refine (CP.out _).mono ?_
 rintro e w6 ⟨rfl, hb⟩
 replace NN := zh (Bgo NN.out hb)
 replace S := zn hb S
 replace V := zn hb V
 replace X := zn hb X
 clear hb
 go_upto_region 5 with fail
 obtain ⟨HB, Y⟩ := zl (w := w6) (.cells #[.int .i64 pn, .int .i64 pd] 83)
 have LT_Y : Hid (gs < w6.heap.size ∧ w.heap.size < w6.heap.size ∧ gX < w6.heap.size ∧ w.heap.size ≤ w6.heap.size) := zh ⟨blk_lt S.out, blk_lt V.out, blk_lt X.out, NN.out.size⟩
 replace NN := zh (Bgo NN.out HB.out)
 replace S := zn HB S
 replace V := zn HB V
 replace X := zn HB X
 clear HB
 generalize (w6.alloc (.cells #[.int .i64 pn, .int .i64 pd] 83)) = W7 at *
 generalize w6.heap.size = gY at *
 by_cases h9 : pe = 0
 ·subst h9
  rw [if_neg (by decide)] at RR
  obtain ⟨c_S_0, f_S_0, c_S_1, f_S_1, l_S⟩ := zfl2 S
  obtain ⟨c_Y_0, f_Y_0, c_Y_1, f_Y_1, l_Y⟩ := zfl2 Y
  go_wp2_with fail
  clear c_S_0 f_S_0 c_S_1 f_S_1 l_S c_Y_0 f_Y_0 c_Y_1 f_Y_1 l_Y
  refine (CS.out _).mono ?_
  rintro e w9 ⟨rfl, hb⟩
  replace NN := zh (Bgo NN.out hb)
  replace S := zn hb S
  replace V := zn hb V
  replace X := zn hb X
  replace Y := zn hb Y
  clear hb
  obtain ⟨c_S_0, f_S_0, c_S_1, f_S_1, l_S⟩ := zfl2 S
  go_wp2_with fail
  clear c_S_0 f_S_0 c_S_1 f_S_1 l_S
  go_ret
  exact ⟨by rw [RR.out]; rfl, grown_trans (grown_of_below NN.out _) (set2_grown _ _ _ _), fun _ => by rw [RR.out]; exact blk_set (blk_set S.out 0 _) 1 _⟩
 ·have q9 : (pe != 0) = true := by simpa using h9
  rw [if_pos h9] at RR
  go_wp2_with fail
  go_ret
  exact ⟨by rw [RR.out]; rfl, grown_of_below NN.out _, fun h => absurd (by rw [RR.out] at h; exact h) h9⟩
theorem add_im {r : Vr} {n d : Int} {gp gs : Nat} {w : World} (hr : visB r = true) (hv : VF n d) (hp : w.heap[gp]? = some (.cells #[.func (.func 104) #[] #[]] 160)) (hs : w.heap[gs]? = some (.cells #[.int .i64 n, .int .i64 d] 83)) (hne : gp ≠ gs) :
  Calls Tryz.prog 126 #[Wv r, .pointer (some ⟨gp, 0, none⟩), .pointer (some ⟨gs, 0, none⟩)] w fun e w' => e = .returned (.int .i64 (rnd true n d r).2.2) ∧ w.grownBy w' (some gs) ∧ ((rnd true n d r).2.2 = 0 → w'.heap[gs]? = some (.cells #[.int .i64 (rnd true n d r).1, .int .i64 (rnd true n d r).2.1] 83)) := by
 have NN := zh (Below.refl w.heap.size w)
 have P := zh hp
 have S := zh hs
 obtain ⟨pb1, pb2, xn, xd, hm, vx, -⟩ := pt_val true hr
 have h0 := vis_val hr
 have CM := zh (fun W => make_calls (ptN true r) r.dn W (by omega) (by omega) (by omega) (by omega))
 have CP := zh (fun W => mul_calls r.n 1 xn xd W)
 obtain ⟨pn, pd, pe, hpm⟩ : ∃ pn pd pe, mulR r.n 1 xn xd = (pn, pd, pe) := ⟨_, _, _, rfl⟩
 have CS := zh (fun W => add_calls n d pn pd W)
 obtain ⟨sn, sd, se, hsm⟩ : ∃ sn sd se, addR n d pn pd = (sn, sd, se) := ⟨_, _, _, rfl⟩
 have RR : Hid (rnd true n d r = if pe ≠ 0 then (0, 0, pe) else (sn, sd, se)) := zh (by unfold rnd; rw [hm]; simp only; rw [hpm]; simp only; rw [hsm])
 have PC := zh (part_im r)
 rw [hm] at CM
 rw [hpm] at CP
 rw [hsm] at CS
 have ep : ptN true r = r.im := rfl
 rw [ep] at CM
 generalize rnd true n d r = R at *
 clear hp hs hr hv hm hpm hsm vx pb1 pb2 h0 ep
 have hlp := blk_lt P.out
 have hls := blk_lt S.out
 go_enter Tryz.func126, Tryz.ntmps126
 go_wp2_with fail
 have V : Hid ((w.alloc (.cells #[.int .i64 r.i, .int .i64 r.j, .int .i64 r.re, .int .i64 r.im, .int .i64 r.dn, .int .i64 r.n] 42)).heap[w.heap.size]? = some (.cells #[.int .i64 r.i, .int .i64 r.j, .int .i64 r.re, .int .i64 r.im, .int .i64 r.dn, .int .i64 r.n] 42)) := zh (blk_new w _)
 have HB := zh (Bal (Below.refl w.heap.size w) (.cells #[.int .i64 r.i, .int .i64 r.j, .int .i64 r.re, .int .i64 r.im, .int .i64 r.dn, .int .i64 r.n] 42))
 replace NN := zh (Bgo NN.out HB.out)
 replace P := zn HB P
 replace S := zn HB S
 clear HB
 generalize w.alloc (.cells #[.int .i64 r.i, .int .i64 r.j, .int .i64 r.re, .int .i64 r.im, .int .i64 r.dn, .int .i64 r.n] 42) = W1 at *
 have HDRW := zh (Below.drew (Below.refl W1.heap.size W1))
 replace NN := zh (Bgo NN.out HDRW.out)
 replace P := zn HDRW P
 replace S := zn HDRW S
 replace V := zn HDRW V
 clear HDRW
 have HAL : Hid (∀ kx9 : Nat, GK [(0, gp, .cells #[.func (.func 104) #[] #[]] 160), (2, w.heap.size, .cells #[.int .i64 r.i, .int .i64 r.j, .int .i64 r.re, .int .i64 r.im, .int .i64 r.dn, .int .i64 r.n] 42), (6, w.heap.size, .cells #[.int .i64 r.i, .int .i64 r.j, .int .i64 r.re, .int .i64 r.im, .int .i64 r.dn, .int .i64 r.n] 42)] kx9 W1.drew) := zh (fun kx9 => fun px9 hp e => by
  simp only [List.mem_cons, List.not_mem_nil, or_false] at hp
  rcases hp with rfl | rfl | rfl
  ·exact P.out
  ·exact V.out
  ·exact V.out
 )
 refine region_G (S := GK [(0, gp, .cells #[.func (.func 104) #[] #[]] 160), (2, w.heap.size, .cells #[.int .i64 r.i, .int .i64 r.j, .int .i64 r.re, .int .i64 r.im, .int .i64 r.dn, .int .i64 r.n] 42), (6, w.heap.size, .cells #[.int .i64 r.i, .int .i64 r.j, .int .i64 r.re, .int .i64 r.im, .int .i64 r.dn, .int .i64 r.n] 42)]) (by kernel_rfl) ?_
 refine tG 0 (.func (.func 104) #[] #[]) (some 9) (GK.grow _) rfl (YieldsIf.toG (Or.inl ⟨by rfl, ?_⟩)) (HAL.out 0) ?_
 ·intro X hX
  have hh := hX (0, gp, .cells #[.func (.func 104) #[] #[]] 160) (List.Mem.head _) rfl
  have hh0 := blk_cell hh 0 _ rfl
  have hhl := blk_lt hh
  clear hh
  clear hX
  go_simp
 try simp only [Act.put, zA, zB, zC]
 refine tP 1 (.pointer (some ⟨w.heap.size, 2, none⟩)) (some 10) rfl ?_ ?_
 ·intro X hX
  clear hX
  go_simp
 try simp only [Act.put, zA, zB, zC]
 refine tG 2 (.agg #[.int .i64 r.re, .int .i64 r.im, .int .i64 r.dn]) (some 11) (GK.grow _) rfl (YieldsIf.toG (Or.inl ⟨by rfl, ?_⟩)) (HAL.out 2) ?_
 ·intro X hX
  have hh := hX (2, w.heap.size, .cells #[.int .i64 r.i, .int .i64 r.j, .int .i64 r.re, .int .i64 r.im, .int .i64 r.dn, .int .i64 r.n] 42) (List.Mem.tail _ (List.Mem.head _)) rfl
  have hh0 := blk_cell hh 2 _ rfl
  have hh1 := blk_cell hh 3 _ rfl
  have hh2 := blk_cell hh 4 _ rfl
  have hhl := blk_lt hh
  clear hh
  clear hX
  go_simp
 try simp only [Act.put, zA, zB, zC]
 have CFn : ∀ (args : Array Value) (W : World), Sem.run Tryz.prog (callFunc 104 args) W = .ok (.enter 104 args) W := fun _ _ => by kernel_rfl
 refine tG 3 (.int .i64 r.im) (some 12) (GK.grow _) rfl (yieldsG_call 104 #[.agg #[.int .i64 r.re, .int .i64 r.im, .int .i64 r.dn]] (by rfl) ?_ (fun X hS => PC.out X)) (GK.drop (by simp)) ?_
 ·intro X hX
  clear hX
  go_simp
 clear CFn
 try simp only [Act.put, zA, zB, zC]
 refine tP 4 (.pointer (some ⟨w.heap.size, 2, none⟩)) (some 13) rfl ?_ ?_
 ·intro X hX
  clear hX
  go_simp
 try simp only [Act.put, zA, zB, zC]
 refine tP 5 (.pointer (some ⟨w.heap.size, 4, none⟩)) (some 14) rfl ?_ ?_
 ·intro X hX
  clear hX
  go_simp
 try simp only [Act.put, zA, zB, zC]
 refine tG 6 (.int .i64 r.dn) (some 15) (GK.grow _) rfl (YieldsIf.toG (Or.inl ⟨by rfl, ?_⟩)) (HAL.out 6) ?_
 ·intro X hX
  have hh := hX (6, w.heap.size, .cells #[.int .i64 r.i, .int .i64 r.j, .int .i64 r.re, .int .i64 r.im, .int .i64 r.dn, .int .i64 r.n] 42) (List.Mem.tail _ (List.Mem.tail _ (List.Mem.head _))) rfl
  have hh0 := blk_cell hh 4 _ rfl
  have hhl := blk_lt hh
  clear hh
  clear hX
  go_simp
 try simp only [Act.put, zA, zB, zC]
 have CFn : ∀ (args : Array Value) (W : World), Sem.run Tryz.prog (callFunc 78 args) W = .ok (.enter 78 args) W := fun _ _ => by kernel_rfl
 refine tG 7 (.tuple #[.agg #[.int .i64 xn, .int .i64 xd], .int .i64 0]) (some 16) (GK.grow _) rfl (yieldsG_call 78 #[.int .i64 r.im, .int .i64 r.dn] (by rfl) ?_ (fun X hS => CM.out X)) (GK.drop (by simp)) ?_
 ·intro X hX
  clear hX
  go_simp
 clear CFn
 try simp only [Act.put, zA, zB, zC]
 refine tP 8 (.tuple #[.agg #[.int .i64 xn, .int .i64 xd], .int .i64 0]) (some 8) rfl ?_ ?_
 ·intro X hX
  clear hX
  go_simp
 try simp only [Act.put, zA, zB, zC]
 refine tP 9 (.agg #[.int .i64 xn, .int .i64 xd]) (some 17) rfl ?_ ?_
 ·intro X hX
  clear hX
  go_simp
 try simp only [Act.put, zA, zB, zC]
 refine tP 10 (.int .i64 0) (some 18) rfl ?_ ?_
 ·intro X hX
  clear hX
  go_simp
 try simp only [Act.put, zA, zB, zC]
 refine only_G 11 (by kernel_rfl) rfl (fun X1 hX K' hK' => ?_)
 replace NN := zh (Bgo NN.out hX)
 replace P := zn hX P
 replace S := zn hX S
 replace V := zn hX V
 replace HAL := zh (fun kx9 => GK.grow _ _ _ _ (HAL.out kx9) hX)
 clear hX
 go_simp
 refine hK'.out _ _ (fun _ _ h => h.alloc _) ?_
 clear hK' K'
 try simp only [Act.put, zA, zB, zC]
 have HB := zh (Bal (Below.refl X1.heap.size X1) (.cells #[.int .i64 0, .int .i64 0] 83))
 have X : Hid ((X1.alloc (.cells #[.int .i64 0, .int .i64 0] 83)).heap[X1.heap.size]? = some (.cells #[.int .i64 0, .int .i64 0] 83)) := zh (blk_new X1 (.cells #[.int .i64 0, .int .i64 0] 83))
 have LT_X : Hid (gp < X1.heap.size ∧ gs < X1.heap.size ∧ w.heap.size < X1.heap.size ∧ w.heap.size ≤ X1.heap.size) := zh ⟨blk_lt P.out, blk_lt S.out, blk_lt V.out, NN.out.size⟩
 replace NN := zh (Bgo NN.out HB.out)
 replace P := zn HB P
 replace S := zn HB S
 replace V := zn HB V
 replace HAL := zh (fun kx9 => GK.grow _ _ _ _ (HAL.out kx9) HB.out)
 clear HB
 generalize X1.alloc (.cells #[.int .i64 0, .int .i64 0] 83) = W2 at *
 generalize X1.heap.size = gX at *
 refine only_G 12 (by kernel_rfl) rfl (fun X3 hX K' hK' => ?_)
 replace NN := zh (Bgo NN.out hX)
 replace P := zn hX P
 replace S := zn hX S
 replace V := zn hX V
 replace X := zn hX X
 replace HAL := zh (fun kx9 => GK.grow _ _ _ _ (HAL.out kx9) hX)
 clear hX
 obtain ⟨c_X_0, f_X_0, c_X_1, f_X_1, l_X⟩ := zfl2 X
 go_simp
 clear c_X_0 f_X_0 c_X_1 f_X_1 l_X
 refine hK'.out _ _ (fun kk hk hS => ?_) ?_
 ·have HN : ∀ px9 ∈ ([(0, gp, .cells #[.func (.func 104) #[] #[]] 160), (2, w.heap.size, .cells #[.int .i64 r.i, .int .i64 r.j, .int .i64 r.re, .int .i64 r.im, .int .i64 r.dn, .int .i64 r.n] 42), (6, w.heap.size, .cells #[.int .i64 r.i, .int .i64 r.j, .int .i64 r.re, .int .i64 r.im, .int .i64 r.dn, .int .i64 r.n] 42)] : List (Nat × Nat × Obj)), px9.1 = kk → px9.2.1 ≠ gX := fun px9 hp e => by
   simp only [List.mem_cons, List.not_mem_nil, or_false] at hp
   rcases hp with rfl | rfl | rfl
   ·subst e
    exact bfl (by kernel_rfl) hk
   ·subst e
    exact bfl (by kernel_rfl) hk
   ·subst e
    exact bfl (by kernel_rfl) hk
  exact GK.set (GK.set hS HN) HN
 clear hK' K'
 try simp only [Act.put, zA, zB, zC]
 clear HAL
 generalize hW : ((X3.setCell ⟨gX, 0, none⟩ (.int .i64 xn)).setCell ⟨gX, 1, none⟩ (.int .i64 xd)) = W4 at *
 replace P : Hid (W4.heap[gp]? = some (.cells #[.func (.func 104) #[] #[]] 160)) := zs hW (blk_set_other (blk_set_other (P.out) (by have := LT_X.out; omega) 0 (.int .i64 xn)) (by have := LT_X.out; omega) 1 (.int .i64 xd))
 replace S : Hid (W4.heap[gs]? = some (.cells #[.int .i64 n, .int .i64 d] 83)) := zs hW (blk_set_other (blk_set_other (S.out) (by have := LT_X.out; omega) 0 (.int .i64 xn)) (by have := LT_X.out; omega) 1 (.int .i64 xd))
 replace V : Hid (W4.heap[w.heap.size]? = some (.cells #[.int .i64 r.i, .int .i64 r.j, .int .i64 r.re, .int .i64 r.im, .int .i64 r.dn, .int .i64 r.n] 42)) := zs hW (blk_set_other (blk_set_other (V.out) (by have := LT_X.out; omega) 0 (.int .i64 xn)) (by have := LT_X.out; omega) 1 (.int .i64 xd))
 replace X : Hid (W4.heap[gX]? = some (.cells #[.int .i64 xn, .int .i64 xd] 83)) := zs hW (blk_set (blk_set (X.out) 0 (.int .i64 xn)) 1 (.int .i64 xd))
 replace NN := zt hW (p := Below _ _) (Bset1 (Bset1 (NN.out) (by have := LT_X.out; omega) 0 (.int .i64 xn)) (by have := LT_X.out; omega) 1 (.int .i64 xd))
 clear hW
 refine tP 13 (.int .i64 0) (some 6) rfl ?_ ?_
 ·intro X hX
  clear hX
  go_simp
 try simp only [Act.put, zA, zB, zC]
 refine done_G (by kernel_rfl) (fun X5 hX => ?_) _
 replace NN := zh (Bgo NN.out hX)
 replace P := zn hX P
 replace S := zn hX S
 replace V := zn hX V
 replace X := zn hX X
 clear hX
 clear P
 obtain ⟨c_V_0, f_V_0, c_V_1, f_V_1, c_V_2, f_V_2, c_V_3, f_V_3, c_V_4, f_V_4, c_V_5, f_V_5, l_V⟩ := zfl6 V
 obtain ⟨c_X_0, f_X_0, c_X_1, f_X_1, l_X⟩ := zfl2 X
 go_wp2_with fail
 clear c_V_0 f_V_0 c_V_1 f_V_1 c_V_2 f_V_2 c_V_3 f_V_3 c_V_4 f_V_4 c_V_5 f_V_5 l_V c_X_0 f_X_0 c_X_1 f_X_1 l_X
 refine (CP.out _).mono ?_
 rintro e w6 ⟨rfl, hb⟩
 replace NN := zh (Bgo NN.out hb)
 replace S := zn hb S
 replace V := zn hb V
 replace X := zn hb X
 clear hb
 go_upto_region 5 with fail
 obtain ⟨HB, Y⟩ := zl (w := w6) (.cells #[.int .i64 pn, .int .i64 pd] 83)
 have LT_Y : Hid (gs < w6.heap.size ∧ w.heap.size < w6.heap.size ∧ gX < w6.heap.size ∧ w.heap.size ≤ w6.heap.size) := zh ⟨blk_lt S.out, blk_lt V.out, blk_lt X.out, NN.out.size⟩
 replace NN := zh (Bgo NN.out HB.out)
 replace S := zn HB S
 replace V := zn HB V
 replace X := zn HB X
 clear HB
 generalize (w6.alloc (.cells #[.int .i64 pn, .int .i64 pd] 83)) = W7 at *
 generalize w6.heap.size = gY at *
 by_cases h9 : pe = 0
 ·subst h9
  rw [if_neg (by decide)] at RR
  obtain ⟨c_S_0, f_S_0, c_S_1, f_S_1, l_S⟩ := zfl2 S
  obtain ⟨c_Y_0, f_Y_0, c_Y_1, f_Y_1, l_Y⟩ := zfl2 Y
  go_wp2_with fail
  clear c_S_0 f_S_0 c_S_1 f_S_1 l_S c_Y_0 f_Y_0 c_Y_1 f_Y_1 l_Y
  refine (CS.out _).mono ?_
  rintro e w9 ⟨rfl, hb⟩
  replace NN := zh (Bgo NN.out hb)
  replace S := zn hb S
  replace V := zn hb V
  replace X := zn hb X
  replace Y := zn hb Y
  clear hb
  obtain ⟨c_S_0, f_S_0, c_S_1, f_S_1, l_S⟩ := zfl2 S
  go_wp2_with fail
  clear c_S_0 f_S_0 c_S_1 f_S_1 l_S
  go_ret
  exact ⟨by rw [RR.out]; rfl, grown_trans (grown_of_below NN.out _) (set2_grown _ _ _ _), fun _ => by rw [RR.out]; exact blk_set (blk_set S.out 0 _) 1 _⟩
 ·have q9 : (pe != 0) = true := by simpa using h9
  rw [if_pos h9] at RR
  go_wp2_with fail
  go_ret
  exact ⟨by rw [RR.out]; rfl, grown_of_below NN.out _, fun h => absurd (by rw [RR.out] at h; exact h) h9⟩
end
section
open Go.ChangeShapes Go.WideShapes Go.ChangeAt Go.RowKit
attribute [local go_sem ↓] Go.wp_at_zero Go.wp_at_succ
theorem below_grow {B : Nat} {w W W' : World} {g : Nat} (h : Below B w W) (hg : W.grownBy W' (some g)) (hB : B ≤ g) (hw : B ≤ W.heap.size) : Below B w W' :=
 ⟨hg.os.trans h.os, hg.tape.trans h.tape, hg.output.trans h.output, Nat.le_trans h.size hg.size, fun k hk => (hg.block k (Nat.lt_of_lt_of_le hk hw) (by intro e; injection e with e; omega)).trans (h.block k hk)⟩
theorem blk_grow {W W' : World} {g b : Nat} {o : Obj} (h : W.heap[b]? = some o) (hg : W.grownBy W' (some g)) (hne : b ≠ g) : W'.heap[b]? = some o :=
 (hg.block b (blk_lt h) (by intro e; injection e with e; exact hne e)).trans h
theorem meanOf_re {A : Option Addr} {c : Nat} {l : List Vr} {w : World} (hl : RV6 w A l) (hc : l.length ≤ c) (hc' : c ≤ 9223372036854775807) (hn : l.length ≤ 1000) (hv : ∀ r ∈ l, visB r = true) :
  Calls Tryz.prog 102 #[.slice A l.length c, .int .i64 (wgt l), .func (.func 103) #[] #[]] w fun e w' => e = .returned (Rv (avgR false l)) ∧ Below w.heap.size w w' := by
 have NN := zh (Below.refl w.heap.size w)
 have HL := zh hl
 have HV := zh hv
 have RR : Hid (avgR false l = if (sumS false 0 1 l).2.2 ≠ 0 then (0, 0, (sumS false 0 1 l).2.2) else divR (sumS false 0 1 l).1 (sumS false 0 1 l).2.1 (wgt l) 1) := zh rfl
 generalize avgR false l = R at *
 generalize wgt l = N at *
 clear hl hv
 go_enter Tryz.func102, Tryz.ntmps102
 go_upto_region 3 with fail
 have P : Hid ((((w.alloc (.cells #[.func (.func 103) #[] #[]] 160)).alloc (.cells #[.int .i64 0, .int .i64 0] 83)).alloc (.cells #[.int .i64 0, .int .i64 1] 83)).heap[w.heap.size]? = some (.cells #[.func (.func 103) #[] #[]] 160)) := zh (blk_alloc (blk_alloc (blk_new w _) _) _)
 have Z : Hid ((((w.alloc (.cells #[.func (.func 103) #[] #[]] 160)).alloc (.cells #[.int .i64 0, .int .i64 0] 83)).alloc (.cells #[.int .i64 0, .int .i64 1] 83)).heap[w.heap.size + 1]? = some (.cells #[.int .i64 0, .int .i64 0] 83)) := zh (blk_alloc (blk_at _ (by simp)) _)
 have S : Hid ((((w.alloc (.cells #[.func (.func 103) #[] #[]] 160)).alloc (.cells #[.int .i64 0, .int .i64 0] 83)).alloc (.cells #[.int .i64 0, .int .i64 1] 83)).heap[w.heap.size + 1 + 1]? = some (.cells #[.int .i64 0, .int .i64 1] 83)) := zh (blk_at _ (by simp))
 replace NN : Hid (Below w.heap.size w (((w.alloc (.cells #[.func (.func 103) #[] #[]] 160)).alloc (.cells #[.int .i64 0, .int .i64 0] 83)).alloc (.cells #[.int .i64 0, .int .i64 1] 83))) := zh (Bal (Bal (Bal NN.out _) _) _)
 generalize (((w.alloc (.cells #[.func (.func 103) #[] #[]] 160)).alloc (.cells #[.int .i64 0, .int .i64 0] 83)).alloc (.cells #[.int .i64 0, .int .i64 1] 83)) = W1 at *
 go_wp2_with fail
 have SZ : Hid (w.heap.size + 1 + 1 < W1.heap.size) := zh (blk_lt S.out)
 go_loopw [17] (fun p wr => ∃ (k : Nat) (n d : Int), k ≤ l.length ∧ p = .int .i64 k ∧ VF n d ∧ Hid (sumS false 0 1 l = sumS false n d (l.drop k)) ∧ Hid (Below w.heap.size w wr) ∧ Hid (wr.heap[w.heap.size]? = some (.cells #[.func (.func 103) #[] #[]] 160)) ∧ Hid (wr.heap[w.heap.size + 1]? = some (.cells #[.int .i64 0, .int .i64 0] 83)) ∧ Hid (wr.heap[w.heap.size + 1 + 1]? = some (.cells #[.int .i64 n, .int .i64 d] 83))) (fun p _ => l.length - (intOf p).toNat)
 case atStart => exact ⟨0, 0, 1, Nat.zero_le _, rfl, VF.int (by decide) (by decide), zh rfl, NN, P, Z, S⟩
 case round =>
  clear NN P Z S SZ
  obtain ⟨k, n, d, hk, rfl, vf, HS, NN, P, Z, S⟩ := hrel
  have VD := zh vf
  clear vf
  by_cases hlt : l.length ≤ k
  ·have e : k = l.length := by omega
   subst e
   have HE : Hid (sumS false 0 1 l = (n, d, 0)) := zh (by rw [HS.out, List.drop_length]; rfl)
   rw [HE.out] at RR
   simp only [ne_eq, not_true_eq_false, if_false] at RR
   clear hk hlt HS
   obtain ⟨c_S_0, f_S_0, c_S_1, f_S_1, l_S⟩ := zfl2 S
   go_wp2_with fail
   clear c_S_0 f_S_0 c_S_1 f_S_1 l_S
   refine (div_calls n d N 1 _).mono ?_
   rintro e w2 ⟨rfl, hb⟩
   replace NN := zh (Bgo NN.out hb)
   replace P := zn hb P
   replace Z := zn hb Z
   replace S := zn hb S
   clear hb
   rw [← RR.out]
   obtain ⟨r1, r2, r3⟩ := R
   obtain ⟨c_Z_0, f_Z_0, c_Z_1, f_Z_1, l_Z⟩ := zfl2 Z
   go_wp2_with fail
   clear c_Z_0 f_Z_0 c_Z_1 f_Z_1 l_Z
   generalize hW : ((w2.setCell ⟨w.heap.size + 1, 0, none⟩ (.int .i64 r1)).setCell ⟨w.heap.size + 1, 1, none⟩ (.int .i64 r2)) = W3 at *
   replace P : Hid (W3.heap[w.heap.size]? = some (.cells #[.func (.func 103) #[] #[]] 160)) := zs hW (blk_set_other (blk_set_other (P.out) (by omega) 0 (.int .i64 r1)) (by omega) 1 (.int .i64 r2))
   replace Z : Hid (W3.heap[w.heap.size + 1]? = some (.cells #[.int .i64 r1, .int .i64 r2] 83)) := zs hW (blk_set (blk_set (Z.out) 0 (.int .i64 r1)) 1 (.int .i64 r2))
   replace S : Hid (W3.heap[w.heap.size + 1 + 1]? = some (.cells #[.int .i64 n, .int .i64 d] 83)) := zs hW (blk_set_other (blk_set_other (S.out) (by omega) 0 (.int .i64 r1)) (by omega) 1 (.int .i64 r2))
   replace NN := zt hW (p := Below _ _) (Bset1 (Bset1 (NN.out) (by omega) 0 (.int .i64 r1)) (by omega) 1 (.int .i64 r2))
   clear hW
   obtain ⟨c_Z_0, c_Z_1, l_Z⟩ := zcl2 Z
   exact bodyPost_ret (v := .tuple #[.agg #[.int .i64 r1, .int .i64 r2], .int .i64 r3]) (by simp [results, Tryz.results102, go_sem, c_Z_0, c_Z_1]) rfl ⟨rfl, NN.out⟩
  replace hlt : k < l.length := by omega
  obtain ⟨b, off, eA, bl, a0, a1, a2, a3, a4, a5⟩ := RV6.at_ HL.out hlt
  have HR : Hid (visB (rowAt l k) = true) := zh (by rw [rowAt_lt hlt]; exact HV.out _ (List.getElem_mem hlt))
  have HD : Hid (sumS false n d (l.drop k) = if (rnd false n d (rowAt l k)).2.2 ≠ 0 then (0, 0, (rnd false n d (rowAt l k)).2.2) else sumS false (rnd false n d (rowAt l k)).1 (rnd false n d (rowAt l k)).2.1 (l.drop (k + 1))) := zh (by rw [List.drop_eq_getElem_cons hlt, rowAt_lt hlt]; rfl)
  generalize rowAt l k = r at *
  subst eA
  replace a0 := (NN.out.cell (p := ⟨b, off + k * 6, none⟩) bl).trans a0
  replace a1 := (NN.out.cell (p := ⟨b, off + k * 6 + 1, none⟩) bl).trans a1
  replace a2 := (NN.out.cell (p := ⟨b, off + k * 6 + 2, none⟩) bl).trans a2
  replace a3 := (NN.out.cell (p := ⟨b, off + k * 6 + 3, none⟩) bl).trans a3
  replace a4 := (NN.out.cell (p := ⟨b, off + k * 6 + 4, none⟩) bl).trans a4
  replace a5 := (NN.out.cell (p := ⟨b, off + k * 6 + 5, none⟩) bl).trans a5
  have lb := Nat.lt_of_lt_of_le bl NN.out.size
  have hkc : k < c := by omega
  go_upto_region 6 with fail
  clear a0 a1 a2 a3 a4 a5 lb
  obtain ⟨HB, VX⟩ := zl (w := wr) (.cells #[.int .i64 r.i, .int .i64 r.j, .int .i64 r.re, .int .i64 r.im, .int .i64 r.dn, .int .i64 r.n] 42)
  have LT_VX : Hid (w.heap.size < wr.heap.size ∧ w.heap.size + 1 < wr.heap.size ∧ w.heap.size + 1 + 1 < wr.heap.size ∧ w.heap.size ≤ wr.heap.size) := zh ⟨blk_lt P.out, blk_lt Z.out, blk_lt S.out, NN.out.size⟩
  replace NN := zh (Bgo NN.out HB.out)
  replace P := zn HB P
  replace Z := zn HB Z
  replace S := zn HB S
  clear HB
  generalize (wr.alloc (.cells #[.int .i64 r.i, .int .i64 r.j, .int .i64 r.re, .int .i64 r.im, .int .i64 r.dn, .int .i64 r.n] 42)) = W4 at *
  generalize wr.heap.size = gX at *
  obtain ⟨c_VX_0, f_VX_0, c_VX_1, f_VX_1, c_VX_2, f_VX_2, c_VX_3, f_VX_3, c_VX_4, f_VX_4, c_VX_5, f_VX_5, l_VX⟩ := zfl6 VX
  go_wp2_with fail
  clear c_VX_0 f_VX_0 c_VX_1 f_VX_1 c_VX_2 f_VX_2 c_VX_3 f_VX_3 c_VX_4 f_VX_4 c_VX_5 f_VX_5 l_VX
  obtain ⟨rn, rd, re, hrn⟩ : ∃ rn rd re, rnd false n d r = (rn, rd, re) := ⟨_, _, _, rfl⟩
  have HA := zh (add_re HR.out VD.out P.out S.out (by omega))
  have HW := zh (rnd_val false VD.out HR.out hrn)
  rw [hrn] at HA HD
  clear hrn
  refine (HA.out).mono ?_
  rintro e w9 ⟨rfl, hg, hs⟩
  have G := zh hg
  have SN := zh hs
  clear hg hs HA
  skip
  replace P := zh (blk_grow P.out G.out (by omega))
  replace Z := zh (blk_grow Z.out G.out (by omega))
  have lW := NN.out.size
  replace NN := zh (below_grow NN.out G.out (by omega) lW)
  clear lW S VX G LT_VX
  by_cases h9 : re = 0
  ·subst h9
   have S := zh (SN.out rfl)
   rw [if_neg (by simp)] at HD
   clear SN
   go_wp2_with fail
   go_roundw
   case rel => exact ⟨k + 1, rn, rd, by omega, by go_num, by rcases HW.out with h | h; exact absurd h (by decide); exact h.2.1, zh (HS.out.trans HD.out), NN, P, Z, S⟩
   case measure => simp [intOf]; omega
  ·have q9 : (re != 0) = true := by simpa using h9
   rw [if_pos h9] at HD
   have HE : Hid (R = (0, 0, re)) := zh (by rw [RR.out, HS.out, HD.out]; simp only; rw [if_pos h9])
   clear RR HS HD SN HW
   obtain ⟨c_Z_0, f_Z_0, c_Z_1, f_Z_1, l_Z⟩ := zfl2 Z
   go_wp2_with fail
   clear c_Z_0 f_Z_0 c_Z_1 f_Z_1 l_Z
   generalize hW : ((w9.setCell ⟨w.heap.size + 1, 0, none⟩ (.int .i64 0)).setCell ⟨w.heap.size + 1, 1, none⟩ (.int .i64 0)) = W5 at *
   replace P : Hid (W5.heap[w.heap.size]? = some (.cells #[.func (.func 103) #[] #[]] 160)) := zs hW (blk_set_other (blk_set_other (P.out) (by omega) 0 (.int .i64 0)) (by omega) 1 (.int .i64 0))
   replace Z : Hid (W5.heap[w.heap.size + 1]? = some (.cells #[.int .i64 0, .int .i64 0] 83)) := zs hW (blk_set (blk_set (Z.out) 0 (.int .i64 0)) 1 (.int .i64 0))
   replace NN := zt hW (p := Below _ _) (Bset1 (Bset1 (NN.out) (by omega) 0 (.int .i64 0)) (by omega) 1 (.int .i64 0))
   clear hW
   obtain ⟨c_Z_0, c_Z_1, l_Z⟩ := zcl2 Z
   exact bodyPost_ret (v := .tuple #[.agg #[.int .i64 0, .int .i64 0], .int .i64 re]) (by simp [results, Tryz.results102, go_sem, c_Z_0, c_Z_1]) rfl ⟨by rw [HE.out], NN.out⟩
theorem meanOf_im {A : Option Addr} {c : Nat} {l : List Vr} {w : World} (hl : RV6 w A l) (hc : l.length ≤ c) (hc' : c ≤ 9223372036854775807) (hn : l.length ≤ 1000) (hv : ∀ r ∈ l, visB r = true) :
  Calls Tryz.prog 102 #[.slice A l.length c, .int .i64 (wgt l), .func (.func 104) #[] #[]] w fun e w' => e = .returned (Rv (avgR true l)) ∧ Below w.heap.size w w' := by
 have NN := zh (Below.refl w.heap.size w)
 have HL := zh hl
 have HV := zh hv
 have RR : Hid (avgR true l = if (sumS true 0 1 l).2.2 ≠ 0 then (0, 0, (sumS true 0 1 l).2.2) else divR (sumS true 0 1 l).1 (sumS true 0 1 l).2.1 (wgt l) 1) := zh rfl
 generalize avgR true l = R at *
 generalize wgt l = N at *
 clear hl hv
 go_enter Tryz.func102, Tryz.ntmps102
 go_upto_region 3 with fail
 have P : Hid ((((w.alloc (.cells #[.func (.func 104) #[] #[]] 160)).alloc (.cells #[.int .i64 0, .int .i64 0] 83)).alloc (.cells #[.int .i64 0, .int .i64 1] 83)).heap[w.heap.size]? = some (.cells #[.func (.func 104) #[] #[]] 160)) := zh (blk_alloc (blk_alloc (blk_new w _) _) _)
 have Z : Hid ((((w.alloc (.cells #[.func (.func 104) #[] #[]] 160)).alloc (.cells #[.int .i64 0, .int .i64 0] 83)).alloc (.cells #[.int .i64 0, .int .i64 1] 83)).heap[w.heap.size + 1]? = some (.cells #[.int .i64 0, .int .i64 0] 83)) := zh (blk_alloc (blk_at _ (by simp)) _)
 have S : Hid ((((w.alloc (.cells #[.func (.func 104) #[] #[]] 160)).alloc (.cells #[.int .i64 0, .int .i64 0] 83)).alloc (.cells #[.int .i64 0, .int .i64 1] 83)).heap[w.heap.size + 1 + 1]? = some (.cells #[.int .i64 0, .int .i64 1] 83)) := zh (blk_at _ (by simp))
 replace NN : Hid (Below w.heap.size w (((w.alloc (.cells #[.func (.func 104) #[] #[]] 160)).alloc (.cells #[.int .i64 0, .int .i64 0] 83)).alloc (.cells #[.int .i64 0, .int .i64 1] 83))) := zh (Bal (Bal (Bal NN.out _) _) _)
 generalize (((w.alloc (.cells #[.func (.func 104) #[] #[]] 160)).alloc (.cells #[.int .i64 0, .int .i64 0] 83)).alloc (.cells #[.int .i64 0, .int .i64 1] 83)) = W1 at *
 go_wp2_with fail
 have SZ : Hid (w.heap.size + 1 + 1 < W1.heap.size) := zh (blk_lt S.out)
 go_loopw [17] (fun p wr => ∃ (k : Nat) (n d : Int), k ≤ l.length ∧ p = .int .i64 k ∧ VF n d ∧ Hid (sumS true 0 1 l = sumS true n d (l.drop k)) ∧ Hid (Below w.heap.size w wr) ∧ Hid (wr.heap[w.heap.size]? = some (.cells #[.func (.func 104) #[] #[]] 160)) ∧ Hid (wr.heap[w.heap.size + 1]? = some (.cells #[.int .i64 0, .int .i64 0] 83)) ∧ Hid (wr.heap[w.heap.size + 1 + 1]? = some (.cells #[.int .i64 n, .int .i64 d] 83))) (fun p _ => l.length - (intOf p).toNat)
 case atStart => exact ⟨0, 0, 1, Nat.zero_le _, rfl, VF.int (by decide) (by decide), zh rfl, NN, P, Z, S⟩
 case round =>
  clear NN P Z S SZ
  obtain ⟨k, n, d, hk, rfl, vf, HS, NN, P, Z, S⟩ := hrel
  have VD := zh vf
  clear vf
  by_cases hlt : l.length ≤ k
  ·have e : k = l.length := by omega
   subst e
   have HE : Hid (sumS true 0 1 l = (n, d, 0)) := zh (by rw [HS.out, List.drop_length]; rfl)
   rw [HE.out] at RR
   simp only [ne_eq, not_true_eq_false, if_false] at RR
   clear hk hlt HS
   obtain ⟨c_S_0, f_S_0, c_S_1, f_S_1, l_S⟩ := zfl2 S
   go_wp2_with fail
   clear c_S_0 f_S_0 c_S_1 f_S_1 l_S
   refine (div_calls n d N 1 _).mono ?_
   rintro e w2 ⟨rfl, hb⟩
   replace NN := zh (Bgo NN.out hb)
   replace P := zn hb P
   replace Z := zn hb Z
   replace S := zn hb S
   clear hb
   rw [← RR.out]
   obtain ⟨r1, r2, r3⟩ := R
   obtain ⟨c_Z_0, f_Z_0, c_Z_1, f_Z_1, l_Z⟩ := zfl2 Z
   go_wp2_with fail
   clear c_Z_0 f_Z_0 c_Z_1 f_Z_1 l_Z
   generalize hW : ((w2.setCell ⟨w.heap.size + 1, 0, none⟩ (.int .i64 r1)).setCell ⟨w.heap.size + 1, 1, none⟩ (.int .i64 r2)) = W3 at *
   replace P : Hid (W3.heap[w.heap.size]? = some (.cells #[.func (.func 104) #[] #[]] 160)) := zs hW (blk_set_other (blk_set_other (P.out) (by omega) 0 (.int .i64 r1)) (by omega) 1 (.int .i64 r2))
   replace Z : Hid (W3.heap[w.heap.size + 1]? = some (.cells #[.int .i64 r1, .int .i64 r2] 83)) := zs hW (blk_set (blk_set (Z.out) 0 (.int .i64 r1)) 1 (.int .i64 r2))
   replace S : Hid (W3.heap[w.heap.size + 1 + 1]? = some (.cells #[.int .i64 n, .int .i64 d] 83)) := zs hW (blk_set_other (blk_set_other (S.out) (by omega) 0 (.int .i64 r1)) (by omega) 1 (.int .i64 r2))
   replace NN := zt hW (p := Below _ _) (Bset1 (Bset1 (NN.out) (by omega) 0 (.int .i64 r1)) (by omega) 1 (.int .i64 r2))
   clear hW
   obtain ⟨c_Z_0, c_Z_1, l_Z⟩ := zcl2 Z
   exact bodyPost_ret (v := .tuple #[.agg #[.int .i64 r1, .int .i64 r2], .int .i64 r3]) (by simp [results, Tryz.results102, go_sem, c_Z_0, c_Z_1]) rfl ⟨rfl, NN.out⟩
  replace hlt : k < l.length := by omega
  obtain ⟨b, off, eA, bl, a0, a1, a2, a3, a4, a5⟩ := RV6.at_ HL.out hlt
  have HR : Hid (visB (rowAt l k) = true) := zh (by rw [rowAt_lt hlt]; exact HV.out _ (List.getElem_mem hlt))
  have HD : Hid (sumS true n d (l.drop k) = if (rnd true n d (rowAt l k)).2.2 ≠ 0 then (0, 0, (rnd true n d (rowAt l k)).2.2) else sumS true (rnd true n d (rowAt l k)).1 (rnd true n d (rowAt l k)).2.1 (l.drop (k + 1))) := zh (by rw [List.drop_eq_getElem_cons hlt, rowAt_lt hlt]; rfl)
  generalize rowAt l k = r at *
  subst eA
  replace a0 := (NN.out.cell (p := ⟨b, off + k * 6, none⟩) bl).trans a0
  replace a1 := (NN.out.cell (p := ⟨b, off + k * 6 + 1, none⟩) bl).trans a1
  replace a2 := (NN.out.cell (p := ⟨b, off + k * 6 + 2, none⟩) bl).trans a2
  replace a3 := (NN.out.cell (p := ⟨b, off + k * 6 + 3, none⟩) bl).trans a3
  replace a4 := (NN.out.cell (p := ⟨b, off + k * 6 + 4, none⟩) bl).trans a4
  replace a5 := (NN.out.cell (p := ⟨b, off + k * 6 + 5, none⟩) bl).trans a5
  have lb := Nat.lt_of_lt_of_le bl NN.out.size
  have hkc : k < c := by omega
  go_upto_region 6 with fail
  clear a0 a1 a2 a3 a4 a5 lb
  obtain ⟨HB, VX⟩ := zl (w := wr) (.cells #[.int .i64 r.i, .int .i64 r.j, .int .i64 r.re, .int .i64 r.im, .int .i64 r.dn, .int .i64 r.n] 42)
  have LT_VX : Hid (w.heap.size < wr.heap.size ∧ w.heap.size + 1 < wr.heap.size ∧ w.heap.size + 1 + 1 < wr.heap.size ∧ w.heap.size ≤ wr.heap.size) := zh ⟨blk_lt P.out, blk_lt Z.out, blk_lt S.out, NN.out.size⟩
  replace NN := zh (Bgo NN.out HB.out)
  replace P := zn HB P
  replace Z := zn HB Z
  replace S := zn HB S
  clear HB
  generalize (wr.alloc (.cells #[.int .i64 r.i, .int .i64 r.j, .int .i64 r.re, .int .i64 r.im, .int .i64 r.dn, .int .i64 r.n] 42)) = W4 at *
  generalize wr.heap.size = gX at *
  obtain ⟨c_VX_0, f_VX_0, c_VX_1, f_VX_1, c_VX_2, f_VX_2, c_VX_3, f_VX_3, c_VX_4, f_VX_4, c_VX_5, f_VX_5, l_VX⟩ := zfl6 VX
  go_wp2_with fail
  clear c_VX_0 f_VX_0 c_VX_1 f_VX_1 c_VX_2 f_VX_2 c_VX_3 f_VX_3 c_VX_4 f_VX_4 c_VX_5 f_VX_5 l_VX
  obtain ⟨rn, rd, re, hrn⟩ : ∃ rn rd re, rnd true n d r = (rn, rd, re) := ⟨_, _, _, rfl⟩
  have HA := zh (add_im HR.out VD.out P.out S.out (by omega))
  have HW := zh (rnd_val true VD.out HR.out hrn)
  rw [hrn] at HA HD
  clear hrn
  refine (HA.out).mono ?_
  rintro e w9 ⟨rfl, hg, hs⟩
  have G := zh hg
  have SN := zh hs
  clear hg hs HA
  skip
  replace P := zh (blk_grow P.out G.out (by omega))
  replace Z := zh (blk_grow Z.out G.out (by omega))
  have lW := NN.out.size
  replace NN := zh (below_grow NN.out G.out (by omega) lW)
  clear lW S VX G LT_VX
  by_cases h9 : re = 0
  ·subst h9
   have S := zh (SN.out rfl)
   rw [if_neg (by simp)] at HD
   clear SN
   go_wp2_with fail
   go_roundw
   case rel => exact ⟨k + 1, rn, rd, by omega, by go_num, by rcases HW.out with h | h; exact absurd h (by decide); exact h.2.1, zh (HS.out.trans HD.out), NN, P, Z, S⟩
   case measure => simp [intOf]; omega
  ·have q9 : (re != 0) = true := by simpa using h9
   rw [if_pos h9] at HD
   have HE : Hid (R = (0, 0, re)) := zh (by rw [RR.out, HS.out, HD.out]; simp only; rw [if_pos h9])
   clear RR HS HD SN HW
   obtain ⟨c_Z_0, f_Z_0, c_Z_1, f_Z_1, l_Z⟩ := zfl2 Z
   go_wp2_with fail
   clear c_Z_0 f_Z_0 c_Z_1 f_Z_1 l_Z
   generalize hW : ((w9.setCell ⟨w.heap.size + 1, 0, none⟩ (.int .i64 0)).setCell ⟨w.heap.size + 1, 1, none⟩ (.int .i64 0)) = W5 at *
   replace P : Hid (W5.heap[w.heap.size]? = some (.cells #[.func (.func 104) #[] #[]] 160)) := zs hW (blk_set_other (blk_set_other (P.out) (by omega) 0 (.int .i64 0)) (by omega) 1 (.int .i64 0))
   replace Z : Hid (W5.heap[w.heap.size + 1]? = some (.cells #[.int .i64 0, .int .i64 0] 83)) := zs hW (blk_set (blk_set (Z.out) 0 (.int .i64 0)) 1 (.int .i64 0))
   replace NN := zt hW (p := Below _ _) (Bset1 (Bset1 (NN.out) (by omega) 0 (.int .i64 0)) (by omega) 1 (.int .i64 0))
   clear hW
   obtain ⟨c_Z_0, c_Z_1, l_Z⟩ := zcl2 Z
   exact bodyPost_ret (v := .tuple #[.agg #[.int .i64 0, .int .i64 0], .int .i64 re]) (by simp [results, Tryz.results102, go_sem, c_Z_0, c_Z_1]) rfl ⟨by rw [HE.out], NN.out⟩
end
section
open Go.ChangeShapes Go.WideShapes Go.ChangeAt Go.RowKit
theorem all_other : ∀ {vs : List Value} {W X : World} {g o b : Nat} {x : Obj}, W.setCells g o vs = X → W.heap[b]? = some x → g ≠ b → X.heap[b]? = some x
 | [], _, _, _, _, _, _, h, hb, _ => by subst h; exact hb
 | v :: r, W, X, g, o, b, x, h, hb, hne => all_other (vs := r) (W := W.setCell ⟨g, o, none⟩ v) h (blk_set_other hb hne o v) hne
theorem all_below {w : World} : ∀ {vs : List Value} {W X : World} {g o : Nat}, W.setCells g o vs = X → Below w.heap.size w W → w.heap.size ≤ g → Below w.heap.size w X
 | [], _, _, _, _, h, hb, _ => by subst h; exact hb
 | v :: r, W, X, g, o, h, hb, hg => all_below (vs := r) (W := W.setCell ⟨g, o, none⟩ v) h (Bset1 hb hg o v) hg
theorem all_cells : ∀ {vs : List Value} {W X : World} {g o : Nat} {cs : Array Value} {T : TypeId}, W.setCells g o vs = X → W.heap[g]? = some (.cells cs T) → ∃ ds : Array Value, X.heap[g]? = some (.cells ds T) ∧ ds.toList = cs.toList.take o ++ vs ++ cs.toList.drop (o + vs.length) ∨ cs.size < o + vs.length
 | [], W, X, g, o, cs, T, h, hc => ⟨cs, .inl ⟨by subst h; exact hc, by simp⟩⟩
 | v :: r, W, X, g, o, cs, T, h, hc => by
  by_cases hs : cs.size < o + (v :: r).length
  ·exact ⟨cs, .inr hs⟩
  ·obtain ⟨ds, h1 | h1⟩ := all_cells (vs := r) (W := W.setCell ⟨g, o, none⟩ v) (o := o + 1) h (blk_set hc o v)
   ·refine ⟨ds, .inl ⟨h1.1, ?_⟩⟩
    have ho : o < cs.toList.length := by simp at hs ⊢; omega
    rw [h1.2, Array.toList_setIfInBounds, List.take_set, List.set_eq_take_append_cons_drop, if_pos (by simp at ho ⊢; omega), List.drop_set_of_lt (by omega)]
    simp [List.take_take, Nat.add_assoc, Nat.add_comm 1]
   ·simp at h1 hs; omega
theorem all_set {vs : List Value} {W X : World} {g : Nat} {cs : Array Value} {T : TypeId} (h : W.setCells g 0 vs = X) (hc : W.heap[g]? = some (.cells cs T)) (hn : cs.size = vs.length) : X.heap[g]? = some (.cells vs.toArray T) := by
 obtain ⟨ds, h1 | h1⟩ := all_cells h hc
 ·rw [h1.1]
  have : ds = vs.toArray := Array.toList_inj.1 (by rw [h1.2]; simp [← hn])
  rw [this]
 ·omega
end
end Go.Proofs.YtbbnkclajpaghaaGreatDoor
