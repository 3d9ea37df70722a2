/- Several texts in one. -/
import Derived.Test.YtbbnkclajpaghaaMA04
import Derived.Test.YtbbnkclajpaghaaMA05
import Derived.Test.YtbbnkclajpaghaaMA06
import Derived.Test.YtbbnkclajpaghaaMA08
import Derived.Test.YtbbnkclajpaghaaMA10
namespace Go.Proofs.Ytbbnkclajpaghaa
open Go.ChangeShapes Go.WideShapes Go.ChangeAt Go.RowKit
set_option linter.unusedVariables false
set_option maxRecDepth 100000
set_option linter.unusedSimpArgs false
attribute [local go_sem ↓] Go.wp_at_zero Go.wp_at_succ
def vr6 (r : Vr) : List Value := [.int .i64 r.i, .int .i64 r.j, .int .i64 r.re, .int .i64 r.im, .int .i64 r.dn, .int .i64 r.n]
theorem vr6_len (r : Vr) : (vr6 r).length = 6 := rfl
theorem vr6_one (l : List Vr) : ∀ u ∈ l.flatMap vr6, u.oneCell' = true := by
 intro u hu
 obtain ⟨s, _, hs⟩ := List.mem_flatMap.1 hu
 simp [vr6] at hs
 rcases hs with rfl | rfl | rfl | rfl | rfl | rfl <;> rfl
abbrev RV6 (w : World) (A : Option Addr) (l : List Vr) : Prop := Rd w 6 A l.length (l.flatMap vr6)
theorem RV6.at_ {w : World} {A : Option Addr} {l : List Vr} (h : RV6 w A l) {i : Nat} (hi : i < l.length) : ∃ b off, A = some ⟨b, off, none⟩ ∧ b < w.heap.size ∧
  w.cell? ⟨b, off + i * 6, none⟩ = some (.int .i64 (rowAt l i).i) ∧ w.cell? ⟨b, off + i * 6 + 1, none⟩ = some (.int .i64 (rowAt l i).j) ∧ w.cell? ⟨b, off + i * 6 + 2, none⟩ = some (.int .i64 (rowAt l i).re) ∧ w.cell? ⟨b, off + i * 6 + 3, none⟩ = some (.int .i64 (rowAt l i).im) ∧
  w.cell? ⟨b, off + i * 6 + 4, none⟩ = some (.int .i64 (rowAt l i).dn) ∧ w.cell? ⟨b, off + i * 6 + 5, none⟩ = some (.int .i64 (rowAt l i).n) := by
 rw [rowAt_lt hi]
 obtain ⟨b, off, e, hl, hc⟩ := Rd.at_ (n := 0) h vr6_len hi
 exact ⟨b, off, e, hl, hc 0 _ rfl, hc 1 _ rfl, hc 2 _ rfl, hc 3 _ rfl, hc 4 _ rfl, hc 5 _ rfl⟩
theorem set2_grown (W : World) (g : Nat) (a b : Value) : W.grownBy ((W.setCell ⟨g, 0, none⟩ a).setCell ⟨g, 1, none⟩ b) (some g) := setCells_grown g [a, b] 0 W
set_option maxRecDepth 100000 in
theorem part_re (r : Vr) (w : World) : Calls Try.prog 52 #[Cv r] w fun e w' => e = .returned (.int .i64 r.re) ∧ Below w.heap.size w w' := by
 have NN := Lib.hid (Below.refl w.heap.size w)
 go_enter Try.func52, Try.ntmps52
 go_wp2_with fail
 have V : Hid ((w.alloc (.cells #[.int .i64 r.re, .int .i64 r.im, .int .i64 r.dn] 24)).heap[w.heap.size]? = some (.cells #[.int .i64 r.re, .int .i64 r.im, .int .i64 r.dn] 24)) := Lib.hid (blk_new w _)
 replace NN : Hid (Below w.heap.size w (w.alloc (.cells #[.int .i64 r.re, .int .i64 r.im, .int .i64 r.dn] 24))) := Lib.hid (Bal NN.out _)
 generalize (w.alloc (.cells #[.int .i64 r.re, .int .i64 r.im, .int .i64 r.dn] 24)) = W1 at *
 have c_V_0 := blk_cell V.out 0 _ rfl
 have f_V_0 := blk_frozen V.out 0
 have c_V_1 := blk_cell V.out 1 _ rfl
 have f_V_1 := blk_frozen V.out 1
 have c_V_2 := blk_cell V.out 2 _ rfl
 have f_V_2 := blk_frozen V.out 2
 have l_V := blk_lt V.out
 go_wp2_with fail
 clear c_V_0 f_V_0 c_V_1 f_V_1 c_V_2 f_V_2 l_V
 go_ret
 exact ⟨rfl, NN.out⟩
set_option maxRecDepth 100000 in
theorem part_im (r : Vr) (w : World) : Calls Try.prog 53 #[Cv r] w fun e w' => e = .returned (.int .i64 r.im) ∧ Below w.heap.size w w' := by
 have NN := Lib.hid (Below.refl w.heap.size w)
 go_enter Try.func53, Try.ntmps53
 go_wp2_with fail
 have V : Hid ((w.alloc (.cells #[.int .i64 r.re, .int .i64 r.im, .int .i64 r.dn] 24)).heap[w.heap.size]? = some (.cells #[.int .i64 r.re, .int .i64 r.im, .int .i64 r.dn] 24)) := Lib.hid (blk_new w _)
 replace NN : Hid (Below w.heap.size w (w.alloc (.cells #[.int .i64 r.re, .int .i64 r.im, .int .i64 r.dn] 24))) := Lib.hid (Bal NN.out _)
 generalize (w.alloc (.cells #[.int .i64 r.re, .int .i64 r.im, .int .i64 r.dn] 24)) = W1 at *
 have c_V_0 := blk_cell V.out 0 _ rfl
 have f_V_0 := blk_frozen V.out 0
 have c_V_1 := blk_cell V.out 1 _ rfl
 have f_V_1 := blk_frozen V.out 1
 have c_V_2 := blk_cell V.out 2 _ rfl
 have f_V_2 := blk_frozen V.out 2
 have l_V := blk_lt V.out
 go_wp2_with fail
 clear c_V_0 f_V_0 c_V_1 f_V_1 c_V_2 f_V_2 l_V
 go_ret
 exact ⟨rfl, NN.out⟩
set_option maxRecDepth 100000 in
set_option maxHeartbeats 8000000 in
theorem add_re {r : Vr} {n d : Int} {gp gs : Nat} {w : World} (hr : visB r = true) (hv : VF n d) (hp : w.heap[gp]? = some (.cells #[.func (.func 52) #[] #[]] 92)) (hs : w.heap[gs]? = some (.cells #[.int .i64 n, .int .i64 d] 80)) (hne : gp ≠ gs) :
  Calls Try.prog 64 #[Wv r, .pointer (some ⟨gp, 0, none⟩), .pointer (some ⟨gs, 0, none⟩)] w fun e w' => e = .returned (.int .i64 (rnd false n d r).2.2) ∧ w.grownBy w' (some gs) ∧ ((rnd false n d r).2.2 = 0 → w'.heap[gs]? = some (.cells #[.int .i64 (rnd false n d r).1, .int .i64 (rnd false n d r).2.1] 80)) := by
 have NN := Lib.hid (Below.refl w.heap.size w)
 have P := Lib.hid hp
 have S := Lib.hid hs
 obtain ⟨pb1, pb2, xn, xd, hm, vx, -⟩ := pt_val false hr
 have h0 := vis_val hr
 have CM := Lib.hid (fun W => make_calls (ptN false r) r.dn W (by omega) (by omega) (by omega) (by omega))
 have CP := Lib.hid (fun W => mul_calls r.n 1 xn xd W)
 obtain ⟨pn, pd, pe, hpm⟩ : ∃ pn pd pe, mulR r.n 1 xn xd = (pn, pd, pe) := ⟨_, _, _, rfl⟩
 have CS := Lib.hid (fun W => add_calls n d pn pd W)
 obtain ⟨sn, sd, se, hsm⟩ : ∃ sn sd se, addR n d pn pd = (sn, sd, se) := ⟨_, _, _, rfl⟩
 have RR : Hid (rnd false n d r = if pe ≠ 0 then (0, 0, pe) else (sn, sd, se)) := Lib.hid (by unfold rnd; rw [hm]; simp only; rw [hpm]; simp only; rw [hsm])
 have PC := Lib.hid (part_re r)
 rw [hm] at CM
 rw [hpm] at CP
 rw [hsm] at CS
 have ep : ptN false r = r.re := rfl
 rw [ep] at CM
 generalize rnd false n d r = R at *
 clear hp hs hr hv hm hpm hsm vx pb1 pb2 h0 ep
 have hlp := blk_lt P.out
 have hls := blk_lt S.out
 go_enter Try.func64, Try.ntmps64
 go_wp2_with fail
 have V : Hid ((w.alloc (.cells #[.int .i64 r.i, .int .i64 r.j, .int .i64 r.re, .int .i64 r.im, .int .i64 r.dn, .int .i64 r.n] 26)).heap[w.heap.size]? = some (.cells #[.int .i64 r.i, .int .i64 r.j, .int .i64 r.re, .int .i64 r.im, .int .i64 r.dn, .int .i64 r.n] 26)) := Lib.hid (blk_new w _)
 have HB := Lib.hid (Bal (Below.refl w.heap.size w) (.cells #[.int .i64 r.i, .int .i64 r.j, .int .i64 r.re, .int .i64 r.im, .int .i64 r.dn, .int .i64 r.n] 26))
 replace NN := Lib.hid (Bgo NN.out HB.out)
 replace P := Lib.hid (blk_next HB.out P.out)
 replace S := Lib.hid (blk_next HB.out S.out)
 clear HB
 generalize w.alloc (.cells #[.int .i64 r.i, .int .i64 r.j, .int .i64 r.re, .int .i64 r.im, .int .i64 r.dn, .int .i64 r.n] 26) = W1 at *
 have HDRW := Lib.hid (Below.drew (Below.refl W1.heap.size W1))
 replace NN := Lib.hid (Bgo NN.out HDRW.out)
 replace P := Lib.hid (blk_next HDRW.out P.out)
 replace S := Lib.hid (blk_next HDRW.out S.out)
 replace V := Lib.hid (blk_next HDRW.out V.out)
 clear HDRW
 have HAL : Hid (∀ kx9 : Nat, GK [(0, gp, .cells #[.func (.func 52) #[] #[]] 92), (2, w.heap.size, .cells #[.int .i64 r.i, .int .i64 r.j, .int .i64 r.re, .int .i64 r.im, .int .i64 r.dn, .int .i64 r.n] 26), (6, w.heap.size, .cells #[.int .i64 r.i, .int .i64 r.j, .int .i64 r.re, .int .i64 r.im, .int .i64 r.dn, .int .i64 r.n] 26)] kx9 W1.drew) := Lib.hid (fun kx9 => fun px9 hp e => by
  simp only [List.mem_cons, List.not_mem_nil, or_false] at hp
  rcases hp with rfl | rfl | rfl
  ·exact P.out
  ·exact V.out
  ·exact V.out
 )
 refine region_G (S := GK [(0, gp, .cells #[.func (.func 52) #[] #[]] 92), (2, w.heap.size, .cells #[.int .i64 r.i, .int .i64 r.j, .int .i64 r.re, .int .i64 r.im, .int .i64 r.dn, .int .i64 r.n] 26), (6, w.heap.size, .cells #[.int .i64 r.i, .int .i64 r.j, .int .i64 r.re, .int .i64 r.im, .int .i64 r.dn, .int .i64 r.n] 26)]) (by kernel_rfl) ?_
 refine tG 0 (.func (.func 52) #[] #[]) (some 9) (GK.grow _) rfl (YieldsIf.toG (Or.inl ⟨by rfl, ?_⟩)) (HAL.out 0) ?_
 ·intro X hX
  have hh := hX (0, gp, .cells #[.func (.func 52) #[] #[]] 92) (List.Mem.head _) rfl
  have hh0 := blk_cell hh 0 _ rfl
  have hhl := blk_lt hh
  clear hh
  clear hX
  go_simp
 try simp only [Act.put, zA, zB, zC]
 refine tG 1 (.pointer (some ⟨w.heap.size, 2, none⟩)) (some 10) (GK.grow _) rfl (YieldsIf.toG (Or.inl ⟨by rfl, ?_⟩)) (GK.drop (by simp)) ?_
 ·intro X hX
  clear hX
  go_simp
 try simp only [Act.put, zA, zB, zC]
 refine tG 2 (.agg #[.int .i64 r.re, .int .i64 r.im, .int .i64 r.dn]) (some 11) (GK.grow _) rfl (YieldsIf.toG (Or.inl ⟨by rfl, ?_⟩)) (HAL.out 2) ?_
 ·intro X hX
  have hh := hX (2, w.heap.size, .cells #[.int .i64 r.i, .int .i64 r.j, .int .i64 r.re, .int .i64 r.im, .int .i64 r.dn, .int .i64 r.n] 26) (List.Mem.tail _ (List.Mem.head _)) rfl
  have hh0 := blk_cell hh 2 _ rfl
  have hh1 := blk_cell hh 3 _ rfl
  have hh2 := blk_cell hh 4 _ rfl
  have hhl := blk_lt hh
  clear hh
  clear hX
  go_simp
 try simp only [Act.put, zA, zB, zC]
 have CFn : ∀ (args : Array Value) (W : World), Sem.run Try.prog (callFunc 52 args) W = .ok (.enter 52 args) W := fun _ _ => by kernel_rfl
 refine tG 3 (.int .i64 r.re) (some 12) (GK.grow _) rfl (yieldsG_call 52 #[.agg #[.int .i64 r.re, .int .i64 r.im, .int .i64 r.dn]] (by rfl) ?_ (fun X hS => PC.out X)) (GK.drop (by simp)) ?_
 ·intro X hX
  clear hX
  go_simp
 clear CFn
 try simp only [Act.put, zA, zB, zC]
 refine tG 4 (.pointer (some ⟨w.heap.size, 2, none⟩)) (some 13) (GK.grow _) rfl (YieldsIf.toG (Or.inl ⟨by rfl, ?_⟩)) (GK.drop (by simp)) ?_
 ·intro X hX
  clear hX
  go_simp
 try simp only [Act.put, zA, zB, zC]
 refine tG 5 (.pointer (some ⟨w.heap.size, 4, none⟩)) (some 14) (GK.grow _) rfl (YieldsIf.toG (Or.inl ⟨by rfl, ?_⟩)) (GK.drop (by simp)) ?_
 ·intro X hX
  clear hX
  go_simp
 try simp only [Act.put, zA, zB, zC]
 refine tG 6 (.int .i64 r.dn) (some 15) (GK.grow _) rfl (YieldsIf.toG (Or.inl ⟨by rfl, ?_⟩)) (HAL.out 6) ?_
 ·intro X hX
  have hh := hX (6, w.heap.size, .cells #[.int .i64 r.i, .int .i64 r.j, .int .i64 r.re, .int .i64 r.im, .int .i64 r.dn, .int .i64 r.n] 26) (List.Mem.tail _ (List.Mem.tail _ (List.Mem.head _))) rfl
  have hh0 := blk_cell hh 4 _ rfl
  have hhl := blk_lt hh
  clear hh
  clear hX
  go_simp
 try simp only [Act.put, zA, zB, zC]
 have CFn : ∀ (args : Array Value) (W : World), Sem.run Try.prog (callFunc 65 args) W = .ok (.enter 65 args) W := fun _ _ => by kernel_rfl
 refine tG 7 (.tuple #[.agg #[.int .i64 xn, .int .i64 xd], .int .i64 0]) (some 16) (GK.grow _) rfl (yieldsG_call 65 #[.int .i64 r.re, .int .i64 r.dn] (by rfl) ?_ (fun X hS => CM.out X)) (GK.drop (by simp)) ?_
 ·intro X hX
  clear hX
  go_simp
 clear CFn
 try simp only [Act.put, zA, zB, zC]
 refine tG 8 (.tuple #[.agg #[.int .i64 xn, .int .i64 xd], .int .i64 0]) (some 8) (GK.grow _) rfl (YieldsIf.toG (Or.inl ⟨by rfl, ?_⟩)) (GK.drop (by simp)) ?_
 ·intro X hX
  clear hX
  go_simp
 try simp only [Act.put, zA, zB, zC]
 refine tG 9 (.agg #[.int .i64 xn, .int .i64 xd]) (some 17) (GK.grow _) rfl (YieldsIf.toG (Or.inl ⟨by rfl, ?_⟩)) (GK.drop (by simp)) ?_
 ·intro X hX
  clear hX
  go_simp
 try simp only [Act.put, zA, zB, zC]
 refine tG 10 (.int .i64 0) (some 18) (GK.grow _) rfl (YieldsIf.toG (Or.inl ⟨by rfl, ?_⟩)) (GK.drop (by simp)) ?_
 ·intro X hX
  clear hX
  go_simp
 try simp only [Act.put, zA, zB, zC]
 refine only_G 11 (by kernel_rfl) rfl (fun X1 hX K' hK' => ?_)
 replace NN := Lib.hid (Bgo NN.out hX)
 replace P := Lib.hid (blk_next hX P.out)
 replace S := Lib.hid (blk_next hX S.out)
 replace V := Lib.hid (blk_next hX V.out)
 replace HAL := Lib.hid (fun kx9 => GK.grow _ _ _ _ (HAL.out kx9) hX)
 clear hX
 go_simp
 refine hK'.out _ _ (fun _ _ h => h.alloc _) ?_
 clear hK' K'
 try simp only [Act.put, zA, zB, zC]
 have HB := Lib.hid (Bal (Below.refl X1.heap.size X1) (.cells #[.int .i64 0, .int .i64 0] 80))
 have X : Hid ((X1.alloc (.cells #[.int .i64 0, .int .i64 0] 80)).heap[X1.heap.size]? = some (.cells #[.int .i64 0, .int .i64 0] 80)) := Lib.hid (blk_new X1 (.cells #[.int .i64 0, .int .i64 0] 80))
 have LT_X : Hid (gp < X1.heap.size ∧ gs < X1.heap.size ∧ w.heap.size < X1.heap.size ∧ w.heap.size ≤ X1.heap.size) := Lib.hid ⟨blk_lt P.out, blk_lt S.out, blk_lt V.out, NN.out.size⟩
 replace NN := Lib.hid (Bgo NN.out HB.out)
 replace P := Lib.hid (blk_next HB.out P.out)
 replace S := Lib.hid (blk_next HB.out S.out)
 replace V := Lib.hid (blk_next HB.out V.out)
 replace HAL := Lib.hid (fun kx9 => GK.grow _ _ _ _ (HAL.out kx9) HB.out)
 clear HB
 generalize X1.alloc (.cells #[.int .i64 0, .int .i64 0] 80) = W2 at *
 generalize X1.heap.size = gX at *
 refine only_G 12 (by kernel_rfl) rfl (fun X3 hX K' hK' => ?_)
 replace NN := Lib.hid (Bgo NN.out hX)
 replace P := Lib.hid (blk_next hX P.out)
 replace S := Lib.hid (blk_next hX S.out)
 replace V := Lib.hid (blk_next hX V.out)
 replace X := Lib.hid (blk_next hX X.out)
 replace HAL := Lib.hid (fun kx9 => GK.grow _ _ _ _ (HAL.out kx9) hX)
 clear hX
 have c_X_0 := blk_cell X.out 0 _ rfl
 have f_X_0 := blk_frozen X.out 0
 have c_X_1 := blk_cell X.out 1 _ rfl
 have f_X_1 := blk_frozen X.out 1
 have l_X := blk_lt X.out
 go_simp
 clear c_X_0 f_X_0 c_X_1 f_X_1 l_X
 refine hK'.out _ _ (fun kk hk hS => ?_) ?_
 ·have HN : ∀ px9 ∈ ([(0, gp, .cells #[.func (.func 52) #[] #[]] 92), (2, w.heap.size, .cells #[.int .i64 r.i, .int .i64 r.j, .int .i64 r.re, .int .i64 r.im, .int .i64 r.dn, .int .i64 r.n] 26), (6, w.heap.size, .cells #[.int .i64 r.i, .int .i64 r.j, .int .i64 r.re, .int .i64 r.im, .int .i64 r.dn, .int .i64 r.n] 26)] : List (Nat × Nat × Obj)), px9.1 = kk → px9.2.1 ≠ gX := fun px9 hp e => by
   simp only [List.mem_cons, List.not_mem_nil, or_false] at hp
   rcases hp with rfl | rfl | rfl
   ·subst e
    exact bfl (by kernel_rfl) hk
   ·subst e
    exact bfl (by kernel_rfl) hk
   ·subst e
    exact bfl (by kernel_rfl) hk
  exact GK.set (GK.set hS HN) HN
 clear hK' K'
 try simp only [Act.put, zA, zB, zC]
 clear HAL
 replace P : Hid (((X3.setCell ⟨gX, 0, none⟩ (.int .i64 xn)).setCell ⟨gX, 1, none⟩ (.int .i64 xd)).heap[gp]? = some (.cells #[.func (.func 52) #[] #[]] 92)) := Lib.hid (blk_set_other (b' := gX) (blk_set_other (b' := gX) (P.out) (by have := LT_X.out; omega) 0 (.int .i64 xn)) (by have := LT_X.out; omega) 1 (.int .i64 xd))
 replace S : Hid (((X3.setCell ⟨gX, 0, none⟩ (.int .i64 xn)).setCell ⟨gX, 1, none⟩ (.int .i64 xd)).heap[gs]? = some (.cells #[.int .i64 n, .int .i64 d] 80)) := Lib.hid (blk_set_other (b' := gX) (blk_set_other (b' := gX) (S.out) (by have := LT_X.out; omega) 0 (.int .i64 xn)) (by have := LT_X.out; omega) 1 (.int .i64 xd))
 replace V : Hid (((X3.setCell ⟨gX, 0, none⟩ (.int .i64 xn)).setCell ⟨gX, 1, none⟩ (.int .i64 xd)).heap[w.heap.size]? = some (.cells #[.int .i64 r.i, .int .i64 r.j, .int .i64 r.re, .int .i64 r.im, .int .i64 r.dn, .int .i64 r.n] 26)) := Lib.hid (blk_set_other (b' := gX) (blk_set_other (b' := gX) (V.out) (by have := LT_X.out; omega) 0 (.int .i64 xn)) (by have := LT_X.out; omega) 1 (.int .i64 xd))
 replace X : Hid (((X3.setCell ⟨gX, 0, none⟩ (.int .i64 xn)).setCell ⟨gX, 1, none⟩ (.int .i64 xd)).heap[gX]? = some (.cells #[.int .i64 xn, .int .i64 xd] 80)) := Lib.hid (blk_set (blk_set (X.out) 0 (.int .i64 xn)) 1 (.int .i64 xd))
 replace NN := Lib.hid (Bset1 (Bset1 (NN.out) (show w.heap.size ≤ gX by have := LT_X.out; omega) 0 (.int .i64 xn)) (show w.heap.size ≤ gX by have := LT_X.out; omega) 1 (.int .i64 xd))
 generalize ((X3.setCell ⟨gX, 0, none⟩ (.int .i64 xn)).setCell ⟨gX, 1, none⟩ (.int .i64 xd)) = W4 at *
 refine tG 13 (.int .i64 0) (some 6) (GK.grow _) rfl (YieldsIf.toG (Or.inl ⟨by rfl, ?_⟩)) (GK.drop (by simp)) ?_
 ·intro X hX
  clear hX
  go_simp
 try simp only [Act.put, zA, zB, zC]
 refine done_G (by kernel_rfl) (fun X5 hX => ?_) _
 replace NN := Lib.hid (Bgo NN.out hX)
 replace P := Lib.hid (blk_next hX P.out)
 replace S := Lib.hid (blk_next hX S.out)
 replace V := Lib.hid (blk_next hX V.out)
 replace X := Lib.hid (blk_next hX X.out)
 clear hX
 clear P
 have c_V_0 := blk_cell V.out 0 _ rfl
 have f_V_0 := blk_frozen V.out 0
 have c_V_1 := blk_cell V.out 1 _ rfl
 have f_V_1 := blk_frozen V.out 1
 have c_V_2 := blk_cell V.out 2 _ rfl
 have f_V_2 := blk_frozen V.out 2
 have c_V_3 := blk_cell V.out 3 _ rfl
 have f_V_3 := blk_frozen V.out 3
 have c_V_4 := blk_cell V.out 4 _ rfl
 have f_V_4 := blk_frozen V.out 4
 have c_V_5 := blk_cell V.out 5 _ rfl
 have f_V_5 := blk_frozen V.out 5
 have l_V := blk_lt V.out
 have c_X_0 := blk_cell X.out 0 _ rfl
 have f_X_0 := blk_frozen X.out 0
 have c_X_1 := blk_cell X.out 1 _ rfl
 have f_X_1 := blk_frozen X.out 1
 have l_X := blk_lt X.out
 go_wp2_with fail
 clear c_V_0 f_V_0 c_V_1 f_V_1 c_V_2 f_V_2 c_V_3 f_V_3 c_V_4 f_V_4 c_V_5 f_V_5 l_V c_X_0 f_X_0 c_X_1 f_X_1 l_X
 refine (CP.out _).mono ?_
 rintro e w6 ⟨rfl, hb⟩
 replace NN := Lib.hid (Bgo NN.out hb)
 replace S := Lib.hid (blk_next hb S.out)
 replace V := Lib.hid (blk_next hb V.out)
 replace X := Lib.hid (blk_next hb X.out)
 clear hb
 go_upto_region 5 with fail
 have HB := Lib.hid (show Below w6.heap.size w6 (w6.alloc (.cells #[.int .i64 pn, .int .i64 pd] 80)) from (Bal (Below.refl _ _) _))
 have Y : Hid ((w6.alloc (.cells #[.int .i64 pn, .int .i64 pd] 80)).heap[w6.heap.size]? = some (.cells #[.int .i64 pn, .int .i64 pd] 80)) := Lib.hid (blk_new w6 _)
 have LT_Y : Hid (gs < w6.heap.size ∧ w.heap.size < w6.heap.size ∧ gX < w6.heap.size ∧ w.heap.size ≤ w6.heap.size) := Lib.hid ⟨blk_lt S.out, blk_lt V.out, blk_lt X.out, NN.out.size⟩
 replace NN := Lib.hid (Bgo NN.out HB.out)
 replace S := Lib.hid (blk_next HB.out S.out)
 replace V := Lib.hid (blk_next HB.out V.out)
 replace X := Lib.hid (blk_next HB.out X.out)
 clear HB
 generalize (w6.alloc (.cells #[.int .i64 pn, .int .i64 pd] 80)) = W7 at *
 generalize w6.heap.size = gY at *
 by_cases h9 : pe = 0
 ·subst h9
  rw [if_neg (by decide)] at RR
  have c_S_0 := blk_cell S.out 0 _ rfl
  have f_S_0 := blk_frozen S.out 0
  have c_S_1 := blk_cell S.out 1 _ rfl
  have f_S_1 := blk_frozen S.out 1
  have l_S := blk_lt S.out
  have c_Y_0 := blk_cell Y.out 0 _ rfl
  have f_Y_0 := blk_frozen Y.out 0
  have c_Y_1 := blk_cell Y.out 1 _ rfl
  have f_Y_1 := blk_frozen Y.out 1
  have l_Y := blk_lt Y.out
  go_wp2_with fail
  clear c_S_0 f_S_0 c_S_1 f_S_1 l_S c_Y_0 f_Y_0 c_Y_1 f_Y_1 l_Y
  refine (CS.out _).mono ?_
  rintro e w9 ⟨rfl, hb⟩
  replace NN := Lib.hid (Bgo NN.out hb)
  replace S := Lib.hid (blk_next hb S.out)
  replace V := Lib.hid (blk_next hb V.out)
  replace X := Lib.hid (blk_next hb X.out)
  replace Y := Lib.hid (blk_next hb Y.out)
  clear hb
  have c_S_0 := blk_cell S.out 0 _ rfl
  have f_S_0 := blk_frozen S.out 0
  have c_S_1 := blk_cell S.out 1 _ rfl
  have f_S_1 := blk_frozen S.out 1
  have l_S := blk_lt S.out
  go_wp2_with fail
  clear c_S_0 f_S_0 c_S_1 f_S_1 l_S
  go_ret
  exact ⟨by rw [RR.out]; rfl, grown_trans (grown_of_below NN.out _) (set2_grown _ _ _ _), fun _ => by rw [RR.out]; exact blk_set (blk_set S.out 0 _) 1 _⟩
 ·have q9 : (pe != 0) = true := by simpa using h9
  rw [if_pos h9] at RR
  go_wp2_with fail
  go_ret
  exact ⟨by rw [RR.out]; rfl, grown_of_below NN.out _, fun h => absurd (by rw [RR.out] at h; exact h) h9⟩
set_option maxRecDepth 100000 in
set_option maxHeartbeats 8000000 in
theorem add_im {r : Vr} {n d : Int} {gp gs : Nat} {w : World} (hr : visB r = true) (hv : VF n d) (hp : w.heap[gp]? = some (.cells #[.func (.func 53) #[] #[]] 92)) (hs : w.heap[gs]? = some (.cells #[.int .i64 n, .int .i64 d] 80)) (hne : gp ≠ gs) :
  Calls Try.prog 64 #[Wv r, .pointer (some ⟨gp, 0, none⟩), .pointer (some ⟨gs, 0, none⟩)] w fun e w' => e = .returned (.int .i64 (rnd true n d r).2.2) ∧ w.grownBy w' (some gs) ∧ ((rnd true n d r).2.2 = 0 → w'.heap[gs]? = some (.cells #[.int .i64 (rnd true n d r).1, .int .i64 (rnd true n d r).2.1] 80)) := by
 have NN := Lib.hid (Below.refl w.heap.size w)
 have P := Lib.hid hp
 have S := Lib.hid hs
 obtain ⟨pb1, pb2, xn, xd, hm, vx, -⟩ := pt_val true hr
 have h0 := vis_val hr
 have CM := Lib.hid (fun W => make_calls (ptN true r) r.dn W (by omega) (by omega) (by omega) (by omega))
 have CP := Lib.hid (fun W => mul_calls r.n 1 xn xd W)
 obtain ⟨pn, pd, pe, hpm⟩ : ∃ pn pd pe, mulR r.n 1 xn xd = (pn, pd, pe) := ⟨_, _, _, rfl⟩
 have CS := Lib.hid (fun W => add_calls n d pn pd W)
 obtain ⟨sn, sd, se, hsm⟩ : ∃ sn sd se, addR n d pn pd = (sn, sd, se) := ⟨_, _, _, rfl⟩
 have RR : Hid (rnd true n d r = if pe ≠ 0 then (0, 0, pe) else (sn, sd, se)) := Lib.hid (by unfold rnd; rw [hm]; simp only; rw [hpm]; simp only; rw [hsm])
 have PC := Lib.hid (part_im r)
 rw [hm] at CM
 rw [hpm] at CP
 rw [hsm] at CS
 have ep : ptN true r = r.im := rfl
 rw [ep] at CM
 generalize rnd true n d r = R at *
 clear hp hs hr hv hm hpm hsm vx pb1 pb2 h0 ep
 have hlp := blk_lt P.out
 have hls := blk_lt S.out
 go_enter Try.func64, Try.ntmps64
 go_wp2_with fail
 have V : Hid ((w.alloc (.cells #[.int .i64 r.i, .int .i64 r.j, .int .i64 r.re, .int .i64 r.im, .int .i64 r.dn, .int .i64 r.n] 26)).heap[w.heap.size]? = some (.cells #[.int .i64 r.i, .int .i64 r.j, .int .i64 r.re, .int .i64 r.im, .int .i64 r.dn, .int .i64 r.n] 26)) := Lib.hid (blk_new w _)
 have HB := Lib.hid (Bal (Below.refl w.heap.size w) (.cells #[.int .i64 r.i, .int .i64 r.j, .int .i64 r.re, .int .i64 r.im, .int .i64 r.dn, .int .i64 r.n] 26))
 replace NN := Lib.hid (Bgo NN.out HB.out)
 replace P := Lib.hid (blk_next HB.out P.out)
 replace S := Lib.hid (blk_next HB.out S.out)
 clear HB
 generalize w.alloc (.cells #[.int .i64 r.i, .int .i64 r.j, .int .i64 r.re, .int .i64 r.im, .int .i64 r.dn, .int .i64 r.n] 26) = W1 at *
 have HDRW := Lib.hid (Below.drew (Below.refl W1.heap.size W1))
 replace NN := Lib.hid (Bgo NN.out HDRW.out)
 replace P := Lib.hid (blk_next HDRW.out P.out)
 replace S := Lib.hid (blk_next HDRW.out S.out)
 replace V := Lib.hid (blk_next HDRW.out V.out)
 clear HDRW
 have HAL : Hid (∀ kx9 : Nat, GK [(0, gp, .cells #[.func (.func 53) #[] #[]] 92), (2, w.heap.size, .cells #[.int .i64 r.i, .int .i64 r.j, .int .i64 r.re, .int .i64 r.im, .int .i64 r.dn, .int .i64 r.n] 26), (6, w.heap.size, .cells #[.int .i64 r.i, .int .i64 r.j, .int .i64 r.re, .int .i64 r.im, .int .i64 r.dn, .int .i64 r.n] 26)] kx9 W1.drew) := Lib.hid (fun kx9 => fun px9 hp e => by
  simp only [List.mem_cons, List.not_mem_nil, or_false] at hp
  rcases hp with rfl | rfl | rfl
  ·exact P.out
  ·exact V.out
  ·exact V.out
 )
 refine region_G (S := GK [(0, gp, .cells #[.func (.func 53) #[] #[]] 92), (2, w.heap.size, .cells #[.int .i64 r.i, .int .i64 r.j, .int .i64 r.re, .int .i64 r.im, .int .i64 r.dn, .int .i64 r.n] 26), (6, w.heap.size, .cells #[.int .i64 r.i, .int .i64 r.j, .int .i64 r.re, .int .i64 r.im, .int .i64 r.dn, .int .i64 r.n] 26)]) (by kernel_rfl) ?_
 refine tG 0 (.func (.func 53) #[] #[]) (some 9) (GK.grow _) rfl (YieldsIf.toG (Or.inl ⟨by rfl, ?_⟩)) (HAL.out 0) ?_
 ·intro X hX
  have hh := hX (0, gp, .cells #[.func (.func 53) #[] #[]] 92) (List.Mem.head _) rfl
  have hh0 := blk_cell hh 0 _ rfl
  have hhl := blk_lt hh
  clear hh
  clear hX
  go_simp
 try simp only [Act.put, zA, zB, zC]
 refine tG 1 (.pointer (some ⟨w.heap.size, 2, none⟩)) (some 10) (GK.grow _) rfl (YieldsIf.toG (Or.inl ⟨by rfl, ?_⟩)) (GK.drop (by simp)) ?_
 ·intro X hX
  clear hX
  go_simp
 try simp only [Act.put, zA, zB, zC]
 refine tG 2 (.agg #[.int .i64 r.re, .int .i64 r.im, .int .i64 r.dn]) (some 11) (GK.grow _) rfl (YieldsIf.toG (Or.inl ⟨by rfl, ?_⟩)) (HAL.out 2) ?_
 ·intro X hX
  have hh := hX (2, w.heap.size, .cells #[.int .i64 r.i, .int .i64 r.j, .int .i64 r.re, .int .i64 r.im, .int .i64 r.dn, .int .i64 r.n] 26) (List.Mem.tail _ (List.Mem.head _)) rfl
  have hh0 := blk_cell hh 2 _ rfl
  have hh1 := blk_cell hh 3 _ rfl
  have hh2 := blk_cell hh 4 _ rfl
  have hhl := blk_lt hh
  clear hh
  clear hX
  go_simp
 try simp only [Act.put, zA, zB, zC]
 have CFn : ∀ (args : Array Value) (W : World), Sem.run Try.prog (callFunc 53 args) W = .ok (.enter 53 args) W := fun _ _ => by kernel_rfl
 refine tG 3 (.int .i64 r.im) (some 12) (GK.grow _) rfl (yieldsG_call 53 #[.agg #[.int .i64 r.re, .int .i64 r.im, .int .i64 r.dn]] (by rfl) ?_ (fun X hS => PC.out X)) (GK.drop (by simp)) ?_
 ·intro X hX
  clear hX
  go_simp
 clear CFn
 try simp only [Act.put, zA, zB, zC]
 refine tG 4 (.pointer (some ⟨w.heap.size, 2, none⟩)) (some 13) (GK.grow _) rfl (YieldsIf.toG (Or.inl ⟨by rfl, ?_⟩)) (GK.drop (by simp)) ?_
 ·intro X hX
  clear hX
  go_simp
 try simp only [Act.put, zA, zB, zC]
 refine tG 5 (.pointer (some ⟨w.heap.size, 4, none⟩)) (some 14) (GK.grow _) rfl (YieldsIf.toG (Or.inl ⟨by rfl, ?_⟩)) (GK.drop (by simp)) ?_
 ·intro X hX
  clear hX
  go_simp
 try simp only [Act.put, zA, zB, zC]
 refine tG 6 (.int .i64 r.dn) (some 15) (GK.grow _) rfl (YieldsIf.toG (Or.inl ⟨by rfl, ?_⟩)) (HAL.out 6) ?_
 ·intro X hX
  have hh := hX (6, w.heap.size, .cells #[.int .i64 r.i, .int .i64 r.j, .int .i64 r.re, .int .i64 r.im, .int .i64 r.dn, .int .i64 r.n] 26) (List.Mem.tail _ (List.Mem.tail _ (List.Mem.head _))) rfl
  have hh0 := blk_cell hh 4 _ rfl
  have hhl := blk_lt hh
  clear hh
  clear hX
  go_simp
 try simp only [Act.put, zA, zB, zC]
 have CFn : ∀ (args : Array Value) (W : World), Sem.run Try.prog (callFunc 65 args) W = .ok (.enter 65 args) W := fun _ _ => by kernel_rfl
 refine tG 7 (.tuple #[.agg #[.int .i64 xn, .int .i64 xd], .int .i64 0]) (some 16) (GK.grow _) rfl (yieldsG_call 65 #[.int .i64 r.im, .int .i64 r.dn] (by rfl) ?_ (fun X hS => CM.out X)) (GK.drop (by simp)) ?_
 ·intro X hX
  clear hX
  go_simp
 clear CFn
 try simp only [Act.put, zA, zB, zC]
 refine tG 8 (.tuple #[.agg #[.int .i64 xn, .int .i64 xd], .int .i64 0]) (some 8) (GK.grow _) rfl (YieldsIf.toG (Or.inl ⟨by rfl, ?_⟩)) (GK.drop (by simp)) ?_
 ·intro X hX
  clear hX
  go_simp
 try simp only [Act.put, zA, zB, zC]
 refine tG 9 (.agg #[.int .i64 xn, .int .i64 xd]) (some 17) (GK.grow _) rfl (YieldsIf.toG (Or.inl ⟨by rfl, ?_⟩)) (GK.drop (by simp)) ?_
 ·intro X hX
  clear hX
  go_simp
 try simp only [Act.put, zA, zB, zC]
 refine tG 10 (.int .i64 0) (some 18) (GK.grow _) rfl (YieldsIf.toG (Or.inl ⟨by rfl, ?_⟩)) (GK.drop (by simp)) ?_
 ·intro X hX
  clear hX
  go_simp
 try simp only [Act.put, zA, zB, zC]
 refine only_G 11 (by kernel_rfl) rfl (fun X1 hX K' hK' => ?_)
 replace NN := Lib.hid (Bgo NN.out hX)
 replace P := Lib.hid (blk_next hX P.out)
 replace S := Lib.hid (blk_next hX S.out)
 replace V := Lib.hid (blk_next hX V.out)
 replace HAL := Lib.hid (fun kx9 => GK.grow _ _ _ _ (HAL.out kx9) hX)
 clear hX
 go_simp
 refine hK'.out _ _ (fun _ _ h => h.alloc _) ?_
 clear hK' K'
 try simp only [Act.put, zA, zB, zC]
 have HB := Lib.hid (Bal (Below.refl X1.heap.size X1) (.cells #[.int .i64 0, .int .i64 0] 80))
 have X : Hid ((X1.alloc (.cells #[.int .i64 0, .int .i64 0] 80)).heap[X1.heap.size]? = some (.cells #[.int .i64 0, .int .i64 0] 80)) := Lib.hid (blk_new X1 (.cells #[.int .i64 0, .int .i64 0] 80))
 have LT_X : Hid (gp < X1.heap.size ∧ gs < X1.heap.size ∧ w.heap.size < X1.heap.size ∧ w.heap.size ≤ X1.heap.size) := Lib.hid ⟨blk_lt P.out, blk_lt S.out, blk_lt V.out, NN.out.size⟩
 replace NN := Lib.hid (Bgo NN.out HB.out)
 replace P := Lib.hid (blk_next HB.out P.out)
 replace S := Lib.hid (blk_next HB.out S.out)
 replace V := Lib.hid (blk_next HB.out V.out)
 replace HAL := Lib.hid (fun kx9 => GK.grow _ _ _ _ (HAL.out kx9) HB.out)
 clear HB
 generalize X1.alloc (.cells #[.int .i64 0, .int .i64 0] 80) = W2 at *
 generalize X1.heap.size = gX at *
 refine only_G 12 (by kernel_rfl) rfl (fun X3 hX K' hK' => ?_)
 replace NN := Lib.hid (Bgo NN.out hX)
 replace P := Lib.hid (blk_next hX P.out)
 replace S := Lib.hid (blk_next hX S.out)
 replace V := Lib.hid (blk_next hX V.out)
 replace X := Lib.hid (blk_next hX X.out)
 replace HAL := Lib.hid (fun kx9 => GK.grow _ _ _ _ (HAL.out kx9) hX)
 clear hX
 have c_X_0 := blk_cell X.out 0 _ rfl
 have f_X_0 := blk_frozen X.out 0
 have c_X_1 := blk_cell X.out 1 _ rfl
 have f_X_1 := blk_frozen X.out 1
 have l_X := blk_lt X.out
 go_simp
 clear c_X_0 f_X_0 c_X_1 f_X_1 l_X
 refine hK'.out _ _ (fun kk hk hS => ?_) ?_
 ·have HN : ∀ px9 ∈ ([(0, gp, .cells #[.func (.func 53) #[] #[]] 92), (2, w.heap.size, .cells #[.int .i64 r.i, .int .i64 r.j, .int .i64 r.re, .int .i64 r.im, .int .i64 r.dn, .int .i64 r.n] 26), (6, w.heap.size, .cells #[.int .i64 r.i, .int .i64 r.j, .int .i64 r.re, .int .i64 r.im, .int .i64 r.dn, .int .i64 r.n] 26)] : List (Nat × Nat × Obj)), px9.1 = kk → px9.2.1 ≠ gX := fun px9 hp e => by
   simp only [List.mem_cons, List.not_mem_nil, or_false] at hp
   rcases hp with rfl | rfl | rfl
   ·subst e
    exact bfl (by kernel_rfl) hk
   ·subst e
    exact bfl (by kernel_rfl) hk
   ·subst e
    exact bfl (by kernel_rfl) hk
  exact GK.set (GK.set hS HN) HN
 clear hK' K'
 try simp only [Act.put, zA, zB, zC]
 clear HAL
 replace P : Hid (((X3.setCell ⟨gX, 0, none⟩ (.int .i64 xn)).setCell ⟨gX, 1, none⟩ (.int .i64 xd)).heap[gp]? = some (.cells #[.func (.func 53) #[] #[]] 92)) := Lib.hid (blk_set_other (b' := gX) (blk_set_other (b' := gX) (P.out) (by have := LT_X.out; omega) 0 (.int .i64 xn)) (by have := LT_X.out; omega) 1 (.int .i64 xd))
 replace S : Hid (((X3.setCell ⟨gX, 0, none⟩ (.int .i64 xn)).setCell ⟨gX, 1, none⟩ (.int .i64 xd)).heap[gs]? = some (.cells #[.int .i64 n, .int .i64 d] 80)) := Lib.hid (blk_set_other (b' := gX) (blk_set_other (b' := gX) (S.out) (by have := LT_X.out; omega) 0 (.int .i64 xn)) (by have := LT_X.out; omega) 1 (.int .i64 xd))
 replace V : Hid (((X3.setCell ⟨gX, 0, none⟩ (.int .i64 xn)).setCell ⟨gX, 1, none⟩ (.int .i64 xd)).heap[w.heap.size]? = some (.cells #[.int .i64 r.i, .int .i64 r.j, .int .i64 r.re, .int .i64 r.im, .int .i64 r.dn, .int .i64 r.n] 26)) := Lib.hid (blk_set_other (b' := gX) (blk_set_other (b' := gX) (V.out) (by have := LT_X.out; omega) 0 (.int .i64 xn)) (by have := LT_X.out; omega) 1 (.int .i64 xd))
 replace X : Hid (((X3.setCell ⟨gX, 0, none⟩ (.int .i64 xn)).setCell ⟨gX, 1, none⟩ (.int .i64 xd)).heap[gX]? = some (.cells #[.int .i64 xn, .int .i64 xd] 80)) := Lib.hid (blk_set (blk_set (X.out) 0 (.int .i64 xn)) 1 (.int .i64 xd))
 replace NN := Lib.hid (Bset1 (Bset1 (NN.out) (show w.heap.size ≤ gX by have := LT_X.out; omega) 0 (.int .i64 xn)) (show w.heap.size ≤ gX by have := LT_X.out; omega) 1 (.int .i64 xd))
 generalize ((X3.setCell ⟨gX, 0, none⟩ (.int .i64 xn)).setCell ⟨gX, 1, none⟩ (.int .i64 xd)) = W4 at *
 refine tG 13 (.int .i64 0) (some 6) (GK.grow _) rfl (YieldsIf.toG (Or.inl ⟨by rfl, ?_⟩)) (GK.drop (by simp)) ?_
 ·intro X hX
  clear hX
  go_simp
 try simp only [Act.put, zA, zB, zC]
 refine done_G (by kernel_rfl) (fun X5 hX => ?_) _
 replace NN := Lib.hid (Bgo NN.out hX)
 replace P := Lib.hid (blk_next hX P.out)
 replace S := Lib.hid (blk_next hX S.out)
 replace V := Lib.hid (blk_next hX V.out)
 replace X := Lib.hid (blk_next hX X.out)
 clear hX
 clear P
 have c_V_0 := blk_cell V.out 0 _ rfl
 have f_V_0 := blk_frozen V.out 0
 have c_V_1 := blk_cell V.out 1 _ rfl
 have f_V_1 := blk_frozen V.out 1
 have c_V_2 := blk_cell V.out 2 _ rfl
 have f_V_2 := blk_frozen V.out 2
 have c_V_3 := blk_cell V.out 3 _ rfl
 have f_V_3 := blk_frozen V.out 3
 have c_V_4 := blk_cell V.out 4 _ rfl
 have f_V_4 := blk_frozen V.out 4
 have c_V_5 := blk_cell V.out 5 _ rfl
 have f_V_5 := blk_frozen V.out 5
 have l_V := blk_lt V.out
 have c_X_0 := blk_cell X.out 0 _ rfl
 have f_X_0 := blk_frozen X.out 0
 have c_X_1 := blk_cell X.out 1 _ rfl
 have f_X_1 := blk_frozen X.out 1
 have l_X := blk_lt X.out
 go_wp2_with fail
 clear c_V_0 f_V_0 c_V_1 f_V_1 c_V_2 f_V_2 c_V_3 f_V_3 c_V_4 f_V_4 c_V_5 f_V_5 l_V c_X_0 f_X_0 c_X_1 f_X_1 l_X
 refine (CP.out _).mono ?_
 rintro e w6 ⟨rfl, hb⟩
 replace NN := Lib.hid (Bgo NN.out hb)
 replace S := Lib.hid (blk_next hb S.out)
 replace V := Lib.hid (blk_next hb V.out)
 replace X := Lib.hid (blk_next hb X.out)
 clear hb
 go_upto_region 5 with fail
 have HB := Lib.hid (show Below w6.heap.size w6 (w6.alloc (.cells #[.int .i64 pn, .int .i64 pd] 80)) from (Bal (Below.refl _ _) _))
 have Y : Hid ((w6.alloc (.cells #[.int .i64 pn, .int .i64 pd] 80)).heap[w6.heap.size]? = some (.cells #[.int .i64 pn, .int .i64 pd] 80)) := Lib.hid (blk_new w6 _)
 have LT_Y : Hid (gs < w6.heap.size ∧ w.heap.size < w6.heap.size ∧ gX < w6.heap.size ∧ w.heap.size ≤ w6.heap.size) := Lib.hid ⟨blk_lt S.out, blk_lt V.out, blk_lt X.out, NN.out.size⟩
 replace NN := Lib.hid (Bgo NN.out HB.out)
 replace S := Lib.hid (blk_next HB.out S.out)
 replace V := Lib.hid (blk_next HB.out V.out)
 replace X := Lib.hid (blk_next HB.out X.out)
 clear HB
 generalize (w6.alloc (.cells #[.int .i64 pn, .int .i64 pd] 80)) = W7 at *
 generalize w6.heap.size = gY at *
 by_cases h9 : pe = 0
 ·subst h9
  rw [if_neg (by decide)] at RR
  have c_S_0 := blk_cell S.out 0 _ rfl
  have f_S_0 := blk_frozen S.out 0
  have c_S_1 := blk_cell S.out 1 _ rfl
  have f_S_1 := blk_frozen S.out 1
  have l_S := blk_lt S.out
  have c_Y_0 := blk_cell Y.out 0 _ rfl
  have f_Y_0 := blk_frozen Y.out 0
  have c_Y_1 := blk_cell Y.out 1 _ rfl
  have f_Y_1 := blk_frozen Y.out 1
  have l_Y := blk_lt Y.out
  go_wp2_with fail
  clear c_S_0 f_S_0 c_S_1 f_S_1 l_S c_Y_0 f_Y_0 c_Y_1 f_Y_1 l_Y
  refine (CS.out _).mono ?_
  rintro e w9 ⟨rfl, hb⟩
  replace NN := Lib.hid (Bgo NN.out hb)
  replace S := Lib.hid (blk_next hb S.out)
  replace V := Lib.hid (blk_next hb V.out)
  replace X := Lib.hid (blk_next hb X.out)
  replace Y := Lib.hid (blk_next hb Y.out)
  clear hb
  have c_S_0 := blk_cell S.out 0 _ rfl
  have f_S_0 := blk_frozen S.out 0
  have c_S_1 := blk_cell S.out 1 _ rfl
  have f_S_1 := blk_frozen S.out 1
  have l_S := blk_lt S.out
  go_wp2_with fail
  clear c_S_0 f_S_0 c_S_1 f_S_1 l_S
  go_ret
  exact ⟨by rw [RR.out]; rfl, grown_trans (grown_of_below NN.out _) (set2_grown _ _ _ _), fun _ => by rw [RR.out]; exact blk_set (blk_set S.out 0 _) 1 _⟩
 ·have q9 : (pe != 0) = true := by simpa using h9
  rw [if_pos h9] at RR
  go_wp2_with fail
  go_ret
  exact ⟨by rw [RR.out]; rfl, grown_of_below NN.out _, fun h => absurd (by rw [RR.out] at h; exact h) h9⟩
end Go.Proofs.Ytbbnkclajpaghaa
namespace Go.Proofs.Ytbbnkclajpaghaa
open Go.ChangeShapes Go.WideShapes Go.ChangeAt Go.RowKit
set_option linter.unusedVariables false
set_option maxRecDepth 100000
set_option linter.unusedSimpArgs false
attribute [local go_sem ↓] Go.wp_at_zero Go.wp_at_succ
theorem below_grow {B : Nat} {w W W' : World} {g : Nat} (h : Below B w W) (hg : W.grownBy W' (some g)) (hB : B ≤ g) (hw : B ≤ W.heap.size) : Below B w W' :=
 ⟨hg.os.trans h.os, hg.tape.trans h.tape, hg.output.trans h.output, Nat.le_trans h.size hg.size, fun k hk => (hg.block k (Nat.lt_of_lt_of_le hk hw) (by intro e; injection e with e; omega)).trans (h.block k hk)⟩
theorem blk_grow {W W' : World} {g b : Nat} {o : Obj} (h : W.heap[b]? = some o) (hg : W.grownBy W' (some g)) (hne : b ≠ g) : W'.heap[b]? = some o :=
 (hg.block b (blk_lt h) (by intro e; injection e with e; exact hne e)).trans h
set_option maxRecDepth 100000 in
set_option maxHeartbeats 8000000 in
theorem meanOf_re {A : Option Addr} {c : Nat} {l : List Vr} {w : World} (hl : RV6 w A l) (hc : l.length ≤ c) (hc' : c ≤ 9223372036854775807) (hn : l.length ≤ 1000) (hv : ∀ r ∈ l, visB r = true) :
  Calls Try.prog 51 #[.slice A l.length c, .int .i64 (wgt l), .func (.func 52) #[] #[]] w fun e w' => e = .returned (Rv (avgR false l)) ∧ Below w.heap.size w w' := by
 have NN := Lib.hid (Below.refl w.heap.size w)
 have HL := Lib.hid hl
 have HV := Lib.hid hv
 have RR : Hid (avgR false l = if (sumS false 0 1 l).2.2 ≠ 0 then (0, 0, (sumS false 0 1 l).2.2) else divR (sumS false 0 1 l).1 (sumS false 0 1 l).2.1 (wgt l) 1) := Lib.hid rfl
 generalize avgR false l = R at *
 generalize wgt l = N at *
 clear hl hv
 go_enter Try.func51, Try.ntmps51
 go_upto_region 3 with fail
 have P : Hid ((((w.alloc (.cells #[.func (.func 52) #[] #[]] 92)).alloc (.cells #[.int .i64 0, .int .i64 0] 80)).alloc (.cells #[.int .i64 0, .int .i64 1] 80)).heap[w.heap.size]? = some (.cells #[.func (.func 52) #[] #[]] 92)) := Lib.hid (blk_alloc (blk_alloc (blk_new w _) _) _)
 have Z : Hid ((((w.alloc (.cells #[.func (.func 52) #[] #[]] 92)).alloc (.cells #[.int .i64 0, .int .i64 0] 80)).alloc (.cells #[.int .i64 0, .int .i64 1] 80)).heap[w.heap.size + 1]? = some (.cells #[.int .i64 0, .int .i64 0] 80)) := Lib.hid (blk_alloc (blk_at _ (by simp)) _)
 have S : Hid ((((w.alloc (.cells #[.func (.func 52) #[] #[]] 92)).alloc (.cells #[.int .i64 0, .int .i64 0] 80)).alloc (.cells #[.int .i64 0, .int .i64 1] 80)).heap[w.heap.size + 1 + 1]? = some (.cells #[.int .i64 0, .int .i64 1] 80)) := Lib.hid (blk_at _ (by simp))
 replace NN : Hid (Below w.heap.size w (((w.alloc (.cells #[.func (.func 52) #[] #[]] 92)).alloc (.cells #[.int .i64 0, .int .i64 0] 80)).alloc (.cells #[.int .i64 0, .int .i64 1] 80))) := Lib.hid (Bal (Bal (Bal NN.out _) _) _)
 generalize (((w.alloc (.cells #[.func (.func 52) #[] #[]] 92)).alloc (.cells #[.int .i64 0, .int .i64 0] 80)).alloc (.cells #[.int .i64 0, .int .i64 1] 80)) = W1 at *
 go_wp2_with fail
 have SZ : Hid (w.heap.size + 1 + 1 < W1.heap.size) := Lib.hid (blk_lt S.out)
 go_loopw [17] (fun p wr => ∃ (k : Nat) (n d : Int), k ≤ l.length ∧ p = .int .i64 k ∧ VF n d ∧ Hid (sumS false 0 1 l = sumS false n d (l.drop k)) ∧ Hid (Below w.heap.size w wr) ∧ Hid (wr.heap[w.heap.size]? = some (.cells #[.func (.func 52) #[] #[]] 92)) ∧ Hid (wr.heap[w.heap.size + 1]? = some (.cells #[.int .i64 0, .int .i64 0] 80)) ∧ Hid (wr.heap[w.heap.size + 1 + 1]? = some (.cells #[.int .i64 n, .int .i64 d] 80))) (fun p _ => l.length - (intOf p).toNat)
 case atStart => exact ⟨0, 0, 1, Nat.zero_le _, rfl, VF.int (by decide) (by decide), Lib.hid rfl, NN, P, Z, S⟩
 case round =>
  clear NN P Z S SZ
  obtain ⟨k, n, d, hk, rfl, vf, HS, NN, P, Z, S⟩ := hrel
  have VD := Lib.hid vf
  clear vf
  by_cases hlt : l.length ≤ k
  ·have e : k = l.length := by omega
   subst e
   have HE : Hid (sumS false 0 1 l = (n, d, 0)) := Lib.hid (by rw [HS.out, List.drop_length]; rfl)
   rw [HE.out] at RR
   simp only [ne_eq, not_true_eq_false, if_false] at RR
   clear hk hlt HS
   have c_S_0 := blk_cell S.out 0 _ rfl
   have f_S_0 := blk_frozen S.out 0
   have c_S_1 := blk_cell S.out 1 _ rfl
   have f_S_1 := blk_frozen S.out 1
   have l_S := blk_lt S.out
   go_wp2_with fail
   clear c_S_0 f_S_0 c_S_1 f_S_1 l_S
   refine (div_calls n d N 1 _).mono ?_
   rintro e w2 ⟨rfl, hb⟩
   replace NN := Lib.hid (Bgo NN.out hb)
   replace P := Lib.hid (blk_next hb P.out)
   replace Z := Lib.hid (blk_next hb Z.out)
   replace S := Lib.hid (blk_next hb S.out)
   clear hb
   rw [← RR.out]
   obtain ⟨r1, r2, r3⟩ := R
   have c_Z_0 := blk_cell Z.out 0 _ rfl
   have f_Z_0 := blk_frozen Z.out 0
   have c_Z_1 := blk_cell Z.out 1 _ rfl
   have f_Z_1 := blk_frozen Z.out 1
   have l_Z := blk_lt Z.out
   go_wp2_with fail
   clear c_Z_0 f_Z_0 c_Z_1 f_Z_1 l_Z
   replace P : Hid (((w2.setCell ⟨w.heap.size + 1, 0, none⟩ (.int .i64 r1)).setCell ⟨w.heap.size + 1, 1, none⟩ (.int .i64 r2)).heap[w.heap.size]? = some (.cells #[.func (.func 52) #[] #[]] 92)) := Lib.hid (blk_set_other (b' := w.heap.size + 1) (blk_set_other (b' := w.heap.size + 1) (P.out) (by omega) 0 (.int .i64 r1)) (by omega) 1 (.int .i64 r2))
   replace Z : Hid (((w2.setCell ⟨w.heap.size + 1, 0, none⟩ (.int .i64 r1)).setCell ⟨w.heap.size + 1, 1, none⟩ (.int .i64 r2)).heap[w.heap.size + 1]? = some (.cells #[.int .i64 r1, .int .i64 r2] 80)) := Lib.hid (blk_set (blk_set (Z.out) 0 (.int .i64 r1)) 1 (.int .i64 r2))
   replace S : Hid (((w2.setCell ⟨w.heap.size + 1, 0, none⟩ (.int .i64 r1)).setCell ⟨w.heap.size + 1, 1, none⟩ (.int .i64 r2)).heap[w.heap.size + 1 + 1]? = some (.cells #[.int .i64 n, .int .i64 d] 80)) := Lib.hid (blk_set_other (b' := w.heap.size + 1) (blk_set_other (b' := w.heap.size + 1) (S.out) (by omega) 0 (.int .i64 r1)) (by omega) 1 (.int .i64 r2))
   replace NN := Lib.hid (Bset1 (Bset1 (NN.out) (show w.heap.size ≤ w.heap.size + 1 by omega) 0 (.int .i64 r1)) (show w.heap.size ≤ w.heap.size + 1 by omega) 1 (.int .i64 r2))
   generalize ((w2.setCell ⟨w.heap.size + 1, 0, none⟩ (.int .i64 r1)).setCell ⟨w.heap.size + 1, 1, none⟩ (.int .i64 r2)) = W3 at *
   have c_Z_0 := blk_cell Z.out 0 _ rfl
   have c_Z_1 := blk_cell Z.out 1 _ rfl
   have l_Z := blk_lt Z.out
   exact bodyPost_ret (v := .tuple #[.agg #[.int .i64 r1, .int .i64 r2], .int .i64 r3]) (by simp [results, Try.results51, go_sem, c_Z_0, c_Z_1]) rfl ⟨rfl, NN.out⟩
  replace hlt : k < l.length := by omega
  obtain ⟨b, off, eA, bl, a0, a1, a2, a3, a4, a5⟩ := RV6.at_ HL.out hlt
  have HR : Hid (visB (rowAt l k) = true) := Lib.hid (by rw [rowAt_lt hlt]; exact HV.out _ (List.getElem_mem hlt))
  have HD : Hid (sumS false n d (l.drop k) = if (rnd false n d (rowAt l k)).2.2 ≠ 0 then (0, 0, (rnd false n d (rowAt l k)).2.2) else sumS false (rnd false n d (rowAt l k)).1 (rnd false n d (rowAt l k)).2.1 (l.drop (k + 1))) := Lib.hid (by rw [List.drop_eq_getElem_cons hlt, rowAt_lt hlt]; rfl)
  generalize rowAt l k = r at *
  subst eA
  replace a0 := (NN.out.cell (p := ⟨b, off + k * 6, none⟩) bl).trans a0
  replace a1 := (NN.out.cell (p := ⟨b, off + k * 6 + 1, none⟩) bl).trans a1
  replace a2 := (NN.out.cell (p := ⟨b, off + k * 6 + 2, none⟩) bl).trans a2
  replace a3 := (NN.out.cell (p := ⟨b, off + k * 6 + 3, none⟩) bl).trans a3
  replace a4 := (NN.out.cell (p := ⟨b, off + k * 6 + 4, none⟩) bl).trans a4
  replace a5 := (NN.out.cell (p := ⟨b, off + k * 6 + 5, none⟩) bl).trans a5
  have lb := Nat.lt_of_lt_of_le bl NN.out.size
  have hkc : k < c := by omega
  go_upto_region 6 with fail
  clear a0 a1 a2 a3 a4 a5 lb
  have HB := Lib.hid (show Below wr.heap.size wr (wr.alloc (.cells #[.int .i64 r.i, .int .i64 r.j, .int .i64 r.re, .int .i64 r.im, .int .i64 r.dn, .int .i64 r.n] 26)) from (Bal (Below.refl _ _) _))
  have VX : Hid ((wr.alloc (.cells #[.int .i64 r.i, .int .i64 r.j, .int .i64 r.re, .int .i64 r.im, .int .i64 r.dn, .int .i64 r.n] 26)).heap[wr.heap.size]? = some (.cells #[.int .i64 r.i, .int .i64 r.j, .int .i64 r.re, .int .i64 r.im, .int .i64 r.dn, .int .i64 r.n] 26)) := Lib.hid (blk_new wr _)
  have LT_VX : Hid (w.heap.size < wr.heap.size ∧ w.heap.size + 1 < wr.heap.size ∧ w.heap.size + 1 + 1 < wr.heap.size ∧ w.heap.size ≤ wr.heap.size) := Lib.hid ⟨blk_lt P.out, blk_lt Z.out, blk_lt S.out, NN.out.size⟩
  replace NN := Lib.hid (Bgo NN.out HB.out)
  replace P := Lib.hid (blk_next HB.out P.out)
  replace Z := Lib.hid (blk_next HB.out Z.out)
  replace S := Lib.hid (blk_next HB.out S.out)
  clear HB
  generalize (wr.alloc (.cells #[.int .i64 r.i, .int .i64 r.j, .int .i64 r.re, .int .i64 r.im, .int .i64 r.dn, .int .i64 r.n] 26)) = W4 at *
  generalize wr.heap.size = gX at *
  have c_VX_0 := blk_cell VX.out 0 _ rfl
  have f_VX_0 := blk_frozen VX.out 0
  have c_VX_1 := blk_cell VX.out 1 _ rfl
  have f_VX_1 := blk_frozen VX.out 1
  have c_VX_2 := blk_cell VX.out 2 _ rfl
  have f_VX_2 := blk_frozen VX.out 2
  have c_VX_3 := blk_cell VX.out 3 _ rfl
  have f_VX_3 := blk_frozen VX.out 3
  have c_VX_4 := blk_cell VX.out 4 _ rfl
  have f_VX_4 := blk_frozen VX.out 4
  have c_VX_5 := blk_cell VX.out 5 _ rfl
  have f_VX_5 := blk_frozen VX.out 5
  have l_VX := blk_lt VX.out
  go_wp2_with fail
  clear c_VX_0 f_VX_0 c_VX_1 f_VX_1 c_VX_2 f_VX_2 c_VX_3 f_VX_3 c_VX_4 f_VX_4 c_VX_5 f_VX_5 l_VX
  obtain ⟨rn, rd, re, hrn⟩ : ∃ rn rd re, rnd false n d r = (rn, rd, re) := ⟨_, _, _, rfl⟩
  have HA := Lib.hid (add_re HR.out VD.out P.out S.out (by omega))
  have HW := Lib.hid (rnd_val false VD.out HR.out hrn)
  rw [hrn] at HA HD
  clear hrn
  refine (HA.out).mono ?_
  rintro e w9 ⟨rfl, hg, hs⟩
  have G := Lib.hid hg
  have SN := Lib.hid hs
  clear hg hs HA
  skip
  replace P := Lib.hid (blk_grow P.out G.out (by omega))
  replace Z := Lib.hid (blk_grow Z.out G.out (by omega))
  have lW := NN.out.size
  replace NN := Lib.hid (below_grow NN.out G.out (by omega) lW)
  clear lW S VX G LT_VX
  by_cases h9 : re = 0
  ·subst h9
   have S := Lib.hid (SN.out rfl)
   rw [if_neg (by simp)] at HD
   clear SN
   go_wp2_with fail
   go_roundw
   case rel => exact ⟨k + 1, rn, rd, by omega, by go_num, by rcases HW.out with h | h; exact absurd h (by decide); exact h.2.1, Lib.hid (HS.out.trans HD.out), NN, P, Z, S⟩
   case measure => simp [intOf]; omega
  ·have q9 : (re != 0) = true := by simpa using h9
   rw [if_pos h9] at HD
   have HE : Hid (R = (0, 0, re)) := Lib.hid (by rw [RR.out, HS.out, HD.out]; simp only; rw [if_pos h9])
   clear RR HS HD SN HW
   have c_Z_0 := blk_cell Z.out 0 _ rfl
   have f_Z_0 := blk_frozen Z.out 0
   have c_Z_1 := blk_cell Z.out 1 _ rfl
   have f_Z_1 := blk_frozen Z.out 1
   have l_Z := blk_lt Z.out
   go_wp2_with fail
   clear c_Z_0 f_Z_0 c_Z_1 f_Z_1 l_Z
   replace P : Hid (((w9.setCell ⟨w.heap.size + 1, 0, none⟩ (.int .i64 0)).setCell ⟨w.heap.size + 1, 1, none⟩ (.int .i64 0)).heap[w.heap.size]? = some (.cells #[.func (.func 52) #[] #[]] 92)) := Lib.hid (blk_set_other (b' := w.heap.size + 1) (blk_set_other (b' := w.heap.size + 1) (P.out) (by omega) 0 (.int .i64 0)) (by omega) 1 (.int .i64 0))
   replace Z : Hid (((w9.setCell ⟨w.heap.size + 1, 0, none⟩ (.int .i64 0)).setCell ⟨w.heap.size + 1, 1, none⟩ (.int .i64 0)).heap[w.heap.size + 1]? = some (.cells #[.int .i64 0, .int .i64 0] 80)) := Lib.hid (blk_set (blk_set (Z.out) 0 (.int .i64 0)) 1 (.int .i64 0))
   replace NN := Lib.hid (Bset1 (Bset1 (NN.out) (show w.heap.size ≤ w.heap.size + 1 by omega) 0 (.int .i64 0)) (show w.heap.size ≤ w.heap.size + 1 by omega) 1 (.int .i64 0))
   generalize ((w9.setCell ⟨w.heap.size + 1, 0, none⟩ (.int .i64 0)).setCell ⟨w.heap.size + 1, 1, none⟩ (.int .i64 0)) = W5 at *
   have c_Z_0 := blk_cell Z.out 0 _ rfl
   have c_Z_1 := blk_cell Z.out 1 _ rfl
   have l_Z := blk_lt Z.out
   exact bodyPost_ret (v := .tuple #[.agg #[.int .i64 0, .int .i64 0], .int .i64 re]) (by simp [results, Try.results51, go_sem, c_Z_0, c_Z_1]) rfl ⟨by rw [HE.out], NN.out⟩
set_option maxRecDepth 100000 in
set_option maxHeartbeats 8000000 in
theorem meanOf_im {A : Option Addr} {c : Nat} {l : List Vr} {w : World} (hl : RV6 w A l) (hc : l.length ≤ c) (hc' : c ≤ 9223372036854775807) (hn : l.length ≤ 1000) (hv : ∀ r ∈ l, visB r = true) :
  Calls Try.prog 51 #[.slice A l.length c, .int .i64 (wgt l), .func (.func 53) #[] #[]] w fun e w' => e = .returned (Rv (avgR true l)) ∧ Below w.heap.size w w' := by
 have NN := Lib.hid (Below.refl w.heap.size w)
 have HL := Lib.hid hl
 have HV := Lib.hid hv
 have RR : Hid (avgR true l = if (sumS true 0 1 l).2.2 ≠ 0 then (0, 0, (sumS true 0 1 l).2.2) else divR (sumS true 0 1 l).1 (sumS true 0 1 l).2.1 (wgt l) 1) := Lib.hid rfl
 generalize avgR true l = R at *
 generalize wgt l = N at *
 clear hl hv
 go_enter Try.func51, Try.ntmps51
 go_upto_region 3 with fail
 have P : Hid ((((w.alloc (.cells #[.func (.func 53) #[] #[]] 92)).alloc (.cells #[.int .i64 0, .int .i64 0] 80)).alloc (.cells #[.int .i64 0, .int .i64 1] 80)).heap[w.heap.size]? = some (.cells #[.func (.func 53) #[] #[]] 92)) := Lib.hid (blk_alloc (blk_alloc (blk_new w _) _) _)
 have Z : Hid ((((w.alloc (.cells #[.func (.func 53) #[] #[]] 92)).alloc (.cells #[.int .i64 0, .int .i64 0] 80)).alloc (.cells #[.int .i64 0, .int .i64 1] 80)).heap[w.heap.size + 1]? = some (.cells #[.int .i64 0, .int .i64 0] 80)) := Lib.hid (blk_alloc (blk_at _ (by simp)) _)
 have S : Hid ((((w.alloc (.cells #[.func (.func 53) #[] #[]] 92)).alloc (.cells #[.int .i64 0, .int .i64 0] 80)).alloc (.cells #[.int .i64 0, .int .i64 1] 80)).heap[w.heap.size + 1 + 1]? = some (.cells #[.int .i64 0, .int .i64 1] 80)) := Lib.hid (blk_at _ (by simp))
 replace NN : Hid (Below w.heap.size w (((w.alloc (.cells #[.func (.func 53) #[] #[]] 92)).alloc (.cells #[.int .i64 0, .int .i64 0] 80)).alloc (.cells #[.int .i64 0, .int .i64 1] 80))) := Lib.hid (Bal (Bal (Bal NN.out _) _) _)
 generalize (((w.alloc (.cells #[.func (.func 53) #[] #[]] 92)).alloc (.cells #[.int .i64 0, .int .i64 0] 80)).alloc (.cells #[.int .i64 0, .int .i64 1] 80)) = W1 at *
 go_wp2_with fail
 have SZ : Hid (w.heap.size + 1 + 1 < W1.heap.size) := Lib.hid (blk_lt S.out)
 go_loopw [17] (fun p wr => ∃ (k : Nat) (n d : Int), k ≤ l.length ∧ p = .int .i64 k ∧ VF n d ∧ Hid (sumS true 0 1 l = sumS true n d (l.drop k)) ∧ Hid (Below w.heap.size w wr) ∧ Hid (wr.heap[w.heap.size]? = some (.cells #[.func (.func 53) #[] #[]] 92)) ∧ Hid (wr.heap[w.heap.size + 1]? = some (.cells #[.int .i64 0, .int .i64 0] 80)) ∧ Hid (wr.heap[w.heap.size + 1 + 1]? = some (.cells #[.int .i64 n, .int .i64 d] 80))) (fun p _ => l.length - (intOf p).toNat)
 case atStart => exact ⟨0, 0, 1, Nat.zero_le _, rfl, VF.int (by decide) (by decide), Lib.hid rfl, NN, P, Z, S⟩
 case round =>
  clear NN P Z S SZ
  obtain ⟨k, n, d, hk, rfl, vf, HS, NN, P, Z, S⟩ := hrel
  have VD := Lib.hid vf
  clear vf
  by_cases hlt : l.length ≤ k
  ·have e : k = l.length := by omega
   subst e
   have HE : Hid (sumS true 0 1 l = (n, d, 0)) := Lib.hid (by rw [HS.out, List.drop_length]; rfl)
   rw [HE.out] at RR
   simp only [ne_eq, not_true_eq_false, if_false] at RR
   clear hk hlt HS
   have c_S_0 := blk_cell S.out 0 _ rfl
   have f_S_0 := blk_frozen S.out 0
   have c_S_1 := blk_cell S.out 1 _ rfl
   have f_S_1 := blk_frozen S.out 1
   have l_S := blk_lt S.out
   go_wp2_with fail
   clear c_S_0 f_S_0 c_S_1 f_S_1 l_S
   refine (div_calls n d N 1 _).mono ?_
   rintro e w2 ⟨rfl, hb⟩
   replace NN := Lib.hid (Bgo NN.out hb)
   replace P := Lib.hid (blk_next hb P.out)
   replace Z := Lib.hid (blk_next hb Z.out)
   replace S := Lib.hid (blk_next hb S.out)
   clear hb
   rw [← RR.out]
   obtain ⟨r1, r2, r3⟩ := R
   have c_Z_0 := blk_cell Z.out 0 _ rfl
   have f_Z_0 := blk_frozen Z.out 0
   have c_Z_1 := blk_cell Z.out 1 _ rfl
   have f_Z_1 := blk_frozen Z.out 1
   have l_Z := blk_lt Z.out
   go_wp2_with fail
   clear c_Z_0 f_Z_0 c_Z_1 f_Z_1 l_Z
   replace P : Hid (((w2.setCell ⟨w.heap.size + 1, 0, none⟩ (.int .i64 r1)).setCell ⟨w.heap.size + 1, 1, none⟩ (.int .i64 r2)).heap[w.heap.size]? = some (.cells #[.func (.func 53) #[] #[]] 92)) := Lib.hid (blk_set_other (b' := w.heap.size + 1) (blk_set_other (b' := w.heap.size + 1) (P.out) (by omega) 0 (.int .i64 r1)) (by omega) 1 (.int .i64 r2))
   replace Z : Hid (((w2.setCell ⟨w.heap.size + 1, 0, none⟩ (.int .i64 r1)).setCell ⟨w.heap.size + 1, 1, none⟩ (.int .i64 r2)).heap[w.heap.size + 1]? = some (.cells #[.int .i64 r1, .int .i64 r2] 80)) := Lib.hid (blk_set (blk_set (Z.out) 0 (.int .i64 r1)) 1 (.int .i64 r2))
   replace S : Hid (((w2.setCell ⟨w.heap.size + 1, 0, none⟩ (.int .i64 r1)).setCell ⟨w.heap.size + 1, 1, none⟩ (.int .i64 r2)).heap[w.heap.size + 1 + 1]? = some (.cells #[.int .i64 n, .int .i64 d] 80)) := Lib.hid (blk_set_other (b' := w.heap.size + 1) (blk_set_other (b' := w.heap.size + 1) (S.out) (by omega) 0 (.int .i64 r1)) (by omega) 1 (.int .i64 r2))
   replace NN := Lib.hid (Bset1 (Bset1 (NN.out) (show w.heap.size ≤ w.heap.size + 1 by omega) 0 (.int .i64 r1)) (show w.heap.size ≤ w.heap.size + 1 by omega) 1 (.int .i64 r2))
   generalize ((w2.setCell ⟨w.heap.size + 1, 0, none⟩ (.int .i64 r1)).setCell ⟨w.heap.size + 1, 1, none⟩ (.int .i64 r2)) = W3 at *
   have c_Z_0 := blk_cell Z.out 0 _ rfl
   have c_Z_1 := blk_cell Z.out 1 _ rfl
   have l_Z := blk_lt Z.out
   exact bodyPost_ret (v := .tuple #[.agg #[.int .i64 r1, .int .i64 r2], .int .i64 r3]) (by simp [results, Try.results51, go_sem, c_Z_0, c_Z_1]) rfl ⟨rfl, NN.out⟩
  replace hlt : k < l.length := by omega
  obtain ⟨b, off, eA, bl, a0, a1, a2, a3, a4, a5⟩ := RV6.at_ HL.out hlt
  have HR : Hid (visB (rowAt l k) = true) := Lib.hid (by rw [rowAt_lt hlt]; exact HV.out _ (List.getElem_mem hlt))
  have HD : Hid (sumS true n d (l.drop k) = if (rnd true n d (rowAt l k)).2.2 ≠ 0 then (0, 0, (rnd true n d (rowAt l k)).2.2) else sumS true (rnd true n d (rowAt l k)).1 (rnd true n d (rowAt l k)).2.1 (l.drop (k + 1))) := Lib.hid (by rw [List.drop_eq_getElem_cons hlt, rowAt_lt hlt]; rfl)
  generalize rowAt l k = r at *
  subst eA
  replace a0 := (NN.out.cell (p := ⟨b, off + k * 6, none⟩) bl).trans a0
  replace a1 := (NN.out.cell (p := ⟨b, off + k * 6 + 1, none⟩) bl).trans a1
  replace a2 := (NN.out.cell (p := ⟨b, off + k * 6 + 2, none⟩) bl).trans a2
  replace a3 := (NN.out.cell (p := ⟨b, off + k * 6 + 3, none⟩) bl).trans a3
  replace a4 := (NN.out.cell (p := ⟨b, off + k * 6 + 4, none⟩) bl).trans a4
  replace a5 := (NN.out.cell (p := ⟨b, off + k * 6 + 5, none⟩) bl).trans a5
  have lb := Nat.lt_of_lt_of_le bl NN.out.size
  have hkc : k < c := by omega
  go_upto_region 6 with fail
  clear a0 a1 a2 a3 a4 a5 lb
  have HB := Lib.hid (show Below wr.heap.size wr (wr.alloc (.cells #[.int .i64 r.i, .int .i64 r.j, .int .i64 r.re, .int .i64 r.im, .int .i64 r.dn, .int .i64 r.n] 26)) from (Bal (Below.refl _ _) _))
  have VX : Hid ((wr.alloc (.cells #[.int .i64 r.i, .int .i64 r.j, .int .i64 r.re, .int .i64 r.im, .int .i64 r.dn, .int .i64 r.n] 26)).heap[wr.heap.size]? = some (.cells #[.int .i64 r.i, .int .i64 r.j, .int .i64 r.re, .int .i64 r.im, .int .i64 r.dn, .int .i64 r.n] 26)) := Lib.hid (blk_new wr _)
  have LT_VX : Hid (w.heap.size < wr.heap.size ∧ w.heap.size + 1 < wr.heap.size ∧ w.heap.size + 1 + 1 < wr.heap.size ∧ w.heap.size ≤ wr.heap.size) := Lib.hid ⟨blk_lt P.out, blk_lt Z.out, blk_lt S.out, NN.out.size⟩
  replace NN := Lib.hid (Bgo NN.out HB.out)
  replace P := Lib.hid (blk_next HB.out P.out)
  replace Z := Lib.hid (blk_next HB.out Z.out)
  replace S := Lib.hid (blk_next HB.out S.out)
  clear HB
  generalize (wr.alloc (.cells #[.int .i64 r.i, .int .i64 r.j, .int .i64 r.re, .int .i64 r.im, .int .i64 r.dn, .int .i64 r.n] 26)) = W4 at *
  generalize wr.heap.size = gX at *
  have c_VX_0 := blk_cell VX.out 0 _ rfl
  have f_VX_0 := blk_frozen VX.out 0
  have c_VX_1 := blk_cell VX.out 1 _ rfl
  have f_VX_1 := blk_frozen VX.out 1
  have c_VX_2 := blk_cell VX.out 2 _ rfl
  have f_VX_2 := blk_frozen VX.out 2
  have c_VX_3 := blk_cell VX.out 3 _ rfl
  have f_VX_3 := blk_frozen VX.out 3
  have c_VX_4 := blk_cell VX.out 4 _ rfl
  have f_VX_4 := blk_frozen VX.out 4
  have c_VX_5 := blk_cell VX.out 5 _ rfl
  have f_VX_5 := blk_frozen VX.out 5
  have l_VX := blk_lt VX.out
  go_wp2_with fail
  clear c_VX_0 f_VX_0 c_VX_1 f_VX_1 c_VX_2 f_VX_2 c_VX_3 f_VX_3 c_VX_4 f_VX_4 c_VX_5 f_VX_5 l_VX
  obtain ⟨rn, rd, re, hrn⟩ : ∃ rn rd re, rnd true n d r = (rn, rd, re) := ⟨_, _, _, rfl⟩
  have HA := Lib.hid (add_im HR.out VD.out P.out S.out (by omega))
  have HW := Lib.hid (rnd_val true VD.out HR.out hrn)
  rw [hrn] at HA HD
  clear hrn
  refine (HA.out).mono ?_
  rintro e w9 ⟨rfl, hg, hs⟩
  have G := Lib.hid hg
  have SN := Lib.hid hs
  clear hg hs HA
  skip
  replace P := Lib.hid (blk_grow P.out G.out (by omega))
  replace Z := Lib.hid (blk_grow Z.out G.out (by omega))
  have lW := NN.out.size
  replace NN := Lib.hid (below_grow NN.out G.out (by omega) lW)
  clear lW S VX G LT_VX
  by_cases h9 : re = 0
  ·subst h9
   have S := Lib.hid (SN.out rfl)
   rw [if_neg (by simp)] at HD
   clear SN
   go_wp2_with fail
   go_roundw
   case rel => exact ⟨k + 1, rn, rd, by omega, by go_num, by rcases HW.out with h | h; exact absurd h (by decide); exact h.2.1, Lib.hid (HS.out.trans HD.out), NN, P, Z, S⟩
   case measure => simp [intOf]; omega
  ·have q9 : (re != 0) = true := by simpa using h9
   rw [if_pos h9] at HD
   have HE : Hid (R = (0, 0, re)) := Lib.hid (by rw [RR.out, HS.out, HD.out]; simp only; rw [if_pos h9])
   clear RR HS HD SN HW
   have c_Z_0 := blk_cell Z.out 0 _ rfl
   have f_Z_0 := blk_frozen Z.out 0
   have c_Z_1 := blk_cell Z.out 1 _ rfl
   have f_Z_1 := blk_frozen Z.out 1
   have l_Z := blk_lt Z.out
   go_wp2_with fail
   clear c_Z_0 f_Z_0 c_Z_1 f_Z_1 l_Z
   replace P : Hid (((w9.setCell ⟨w.heap.size + 1, 0, none⟩ (.int .i64 0)).setCell ⟨w.heap.size + 1, 1, none⟩ (.int .i64 0)).heap[w.heap.size]? = some (.cells #[.func (.func 53) #[] #[]] 92)) := Lib.hid (blk_set_other (b' := w.heap.size + 1) (blk_set_other (b' := w.heap.size + 1) (P.out) (by omega) 0 (.int .i64 0)) (by omega) 1 (.int .i64 0))
   replace Z : Hid (((w9.setCell ⟨w.heap.size + 1, 0, none⟩ (.int .i64 0)).setCell ⟨w.heap.size + 1, 1, none⟩ (.int .i64 0)).heap[w.heap.size + 1]? = some (.cells #[.int .i64 0, .int .i64 0] 80)) := Lib.hid (blk_set (blk_set (Z.out) 0 (.int .i64 0)) 1 (.int .i64 0))
   replace NN := Lib.hid (Bset1 (Bset1 (NN.out) (show w.heap.size ≤ w.heap.size + 1 by omega) 0 (.int .i64 0)) (show w.heap.size ≤ w.heap.size + 1 by omega) 1 (.int .i64 0))
   generalize ((w9.setCell ⟨w.heap.size + 1, 0, none⟩ (.int .i64 0)).setCell ⟨w.heap.size + 1, 1, none⟩ (.int .i64 0)) = W5 at *
   have c_Z_0 := blk_cell Z.out 0 _ rfl
   have c_Z_1 := blk_cell Z.out 1 _ rfl
   have l_Z := blk_lt Z.out
   exact bodyPost_ret (v := .tuple #[.agg #[.int .i64 0, .int .i64 0], .int .i64 re]) (by simp [results, Try.results51, go_sem, c_Z_0, c_Z_1]) rfl ⟨by rw [HE.out], NN.out⟩
end Go.Proofs.Ytbbnkclajpaghaa
