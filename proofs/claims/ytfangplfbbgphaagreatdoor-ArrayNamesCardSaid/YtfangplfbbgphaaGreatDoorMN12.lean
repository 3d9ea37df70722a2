/- Several texts in one. -/
import Derived.Test.YtfangplfbbgphaaGreatDoorMN06
import Derived.Test.YtfangplfbbgphaaGreatDoorMN09
import Derived.Test.YtfangplfbbgphaaGreatDoorMN11
namespace Go.Proofs.YtfangplfbbgphaaGreatDoor
open Go.ChangeShapes Go.WideShapes Go.ChangeAt Go.RowKit
set_option linter.unusedVariables false
set_option maxRecDepth 100000
set_option linter.unusedSimpArgs false
attribute [local go_sem ↓] Go.wp_at_zero Go.wp_at_succ
attribute [local go_sem] Oper.semAt_some
attribute [local go_sem ↓] eqVe
theorem infoC : (Tryz.prog.info? 40).map (fun i => (i.zero, i.size, i.bytes)) = some (some (.agg #[.int .i64 0, .int .i64 0, .int .i64 0, .int .i64 0, .int .i64 0, .int .i64 0, .slice none 0 0]), 7, 72) := by kernel_rfl
theorem und_cls : Tryz.prog.underlying 27 = some (.slice 40) := by kernel_rfl
theorem below_set_same {B : Nat} {w W : World} (h : Below B w W) {g : Nat} {v : Value} {T : TypeId} (hg : w.heap[g]? = some (.cells #[v] T)) : Below B (w.setCell ⟨g, 0, none⟩ v) W := by
 refine ⟨h.os, h.tape, h.output, by simpa using h.size, fun b hb => ?_⟩
 by_cases e : g = b
 ·subst e
  rw [blk_set hg 0 v, h.block g hb, hg]; rfl
 ·rw [heap_setCell_other w ⟨g, 0, none⟩ b v (fun h => e h.symm)]
  exact h.block b hb
theorem below_set_both {B : Nat} {w W : World} (h : Below B w W) {g : Nat} (v : Value) {o o' : Value} {T : TypeId} (hg : w.heap[g]? = some (.cells #[o] T)) (hg' : W.heap[g]? = some (.cells #[o'] T)) : Below B (w.setCell ⟨g, 0, none⟩ v) (W.setCell ⟨g, 0, none⟩ v) := by
 refine ⟨h.os, h.tape, h.output, by simpa using h.size, fun b hb => ?_⟩
 by_cases e : g = b
 ·subst e
  rw [blk_set hg 0 v, blk_set hg' 0 v]; rfl
 ·rw [heap_setCell_other w ⟨g, 0, none⟩ b v (fun h => e h.symm), heap_setCell_other W ⟨g, 0, none⟩ b v (fun h => e h.symm)]
  exact h.block b hb
theorem add_flat (g j : Nat) : (⟨g, 0, none⟩ : Addr).add j = ⟨g, j, none⟩ := by
 unfold Addr.add
 by_cases h : j = 0
 ·subst h; simp
 ·simp [h]
theorem OC.cells {B : Nat} {W : World} {A : Option Addr} {n c0 : Nat} {cs : List Cl} {hs : List Value} (h : OC B W (.slice A n c0) cs hs) (hn : 0 < cs.length) : ∃ g cur, A = some ⟨g, 0, none⟩ ∧ B ≤ g ∧ W.heap[g]? = some (.cells cur 40) ∧
  ∀ X : World, X.heap[g]? = some (.cells cur 40) → ∀ (k : Nat) (c : Cl) (u : Value), cs[k]? = some c → hs[k]? = some u → ∀ (j : Nat) (x : Value), (cl7 (c.1, u))[j]? = some x → X.cell? ⟨g, k * 7 + j, none⟩ = some x := by
 rcases h.row.2 with ⟨_, h2⟩ | ⟨g, cap, cur, h1, h2, h3, h4⟩
 ·have := hdC_len h.len
  have := h.row.1
  exfalso; omega
 ·injection h1 with e1 e2 e3
  subst e1
  refine ⟨g, cur, rfl, h2, h3, fun X hX k c u hc hu j x hj => ?_⟩
  have hlt : j < 7 := (List.getElem?_eq_some_iff.1 hj).1
  have := h.row.cells (g := g) rfl (k * 7 + j) x (by rw [fm_get cl7 7 cl7_len (hdC cs hs) k j (c.1, u) (hdC_get hc hu) hlt]; exact hj)
  rw [add_flat] at this
  exact (cell_same (hX.trans h3.symm) _).trans this
set_option maxRecDepth 100000 in
set_option maxHeartbeats 8000000 in
theorem put_calls {p : Nat × Nat} {there back : V6} {B g3 : Nat} {v : Value} {cs : List Cl} {hs : List Value} {w : World} (hB : g3 < B) (hw : B ≤ w.heap.size) (hg : w.heap[g3]? = some (.cells #[v] 27)) (ho : OC B w v cs hs) (h28 : cs.length ≤ 28) (hq : ∀ c ∈ cs, c.2.length ≤ 28) :
  Calls Tryz.prog 37 #[.agg #[.int .i64 (p.1 : Int), .int .i64 (p.2 : Int)], Vv there, Vv back, .pointer (some ⟨g3, 0, none⟩)] w fun e w' =>
   (∃ u, e = .returned u) ∧ KeepsFrom B w w' ∧ ∃ v' hs', Below B (w.setCell ⟨g3, 0, none⟩ v') w' ∧ w'.heap[g3]? = some (.cells #[v'] 27) ∧ OC B w' v' (putC p there back cs) hs' := by
 have NN := Lib.hid (Below.refl w.heap.size w)
 obtain ⟨A0, c0, hv0, hn0, hc1, -⟩ := Rd.of_own ho.row
 subst hv0
 have G3 := Lib.hid hg
 have OX := Lib.hid ho
 have HB := Lib.hid hB
 have HW := Lib.hid hw
 have H28 := Lib.hid h28
 have HQ := Lib.hid hq
 have HG0 := Lib.hid hg
 clear hg ho hB hw h28 hq
 go_enter Tryz.func37, Tryz.ntmps37
 go_upto_region 1 with fail
 have HBX := Lib.hid (show Below w.heap.size w (((w.alloc (.cells #[.int .i64 (p.1 : Int), .int .i64 (p.2 : Int)] 43)).alloc (.cells #[.int .i64 there.x1, .int .i64 there.x2, .int .i64 there.y1, .int .i64 there.y2, .int .i64 there.z1, .int .i64 there.z2] 38)).alloc (.cells #[.int .i64 back.x1, .int .i64 back.x2, .int .i64 back.y1, .int .i64 back.y2, .int .i64 back.z1, .int .i64 back.z2] 38)) from Bal (Bal (Bal (Below.refl _ _) _) _) _)
 replace OX := Lib.hid (OC.next OX.out HBX.out)
 replace G3 := Lib.hid (blk_next HBX.out G3.out)
 have LT0 : Hid (g3 < w.heap.size) := Lib.hid (blk_lt HG0.out)
 clear HBX
 have P : Hid ((((w.alloc (.cells #[.int .i64 (p.1 : Int), .int .i64 (p.2 : Int)] 43)).alloc (.cells #[.int .i64 there.x1, .int .i64 there.x2, .int .i64 there.y1, .int .i64 there.y2, .int .i64 there.z1, .int .i64 there.z2] 38)).alloc (.cells #[.int .i64 back.x1, .int .i64 back.x2, .int .i64 back.y1, .int .i64 back.y2, .int .i64 back.z1, .int .i64 back.z2] 38)).heap[w.heap.size]? = some (.cells #[.int .i64 (p.1 : Int), .int .i64 (p.2 : Int)] 43)) := Lib.hid (blk_alloc (blk_alloc (blk_new w _) _) _)
 have X : Hid ((((w.alloc (.cells #[.int .i64 (p.1 : Int), .int .i64 (p.2 : Int)] 43)).alloc (.cells #[.int .i64 there.x1, .int .i64 there.x2, .int .i64 there.y1, .int .i64 there.y2, .int .i64 there.z1, .int .i64 there.z2] 38)).alloc (.cells #[.int .i64 back.x1, .int .i64 back.x2, .int .i64 back.y1, .int .i64 back.y2, .int .i64 back.z1, .int .i64 back.z2] 38)).heap[w.heap.size + 1]? = some (.cells #[.int .i64 there.x1, .int .i64 there.x2, .int .i64 there.y1, .int .i64 there.y2, .int .i64 there.z1, .int .i64 there.z2] 38)) := Lib.hid (blk_alloc (blk_at _ (by simp)) _)
 have Y : Hid ((((w.alloc (.cells #[.int .i64 (p.1 : Int), .int .i64 (p.2 : Int)] 43)).alloc (.cells #[.int .i64 there.x1, .int .i64 there.x2, .int .i64 there.y1, .int .i64 there.y2, .int .i64 there.z1, .int .i64 there.z2] 38)).alloc (.cells #[.int .i64 back.x1, .int .i64 back.x2, .int .i64 back.y1, .int .i64 back.y2, .int .i64 back.z1, .int .i64 back.z2] 38)).heap[w.heap.size + 1 + 1]? = some (.cells #[.int .i64 back.x1, .int .i64 back.x2, .int .i64 back.y1, .int .i64 back.y2, .int .i64 back.z1, .int .i64 back.z2] 38)) := Lib.hid (blk_at _ (by simp))
 replace NN : Hid (Below w.heap.size w (((w.alloc (.cells #[.int .i64 (p.1 : Int), .int .i64 (p.2 : Int)] 43)).alloc (.cells #[.int .i64 there.x1, .int .i64 there.x2, .int .i64 there.y1, .int .i64 there.y2, .int .i64 there.z1, .int .i64 there.z2] 38)).alloc (.cells #[.int .i64 back.x1, .int .i64 back.x2, .int .i64 back.y1, .int .i64 back.y2, .int .i64 back.z1, .int .i64 back.z2] 38))) := Lib.hid (Bal (Bal (Bal NN.out _) _) _)
 generalize (((w.alloc (.cells #[.int .i64 (p.1 : Int), .int .i64 (p.2 : Int)] 43)).alloc (.cells #[.int .i64 there.x1, .int .i64 there.x2, .int .i64 there.y1, .int .i64 there.y2, .int .i64 there.z1, .int .i64 there.z2] 38)).alloc (.cells #[.int .i64 back.x1, .int .i64 back.x2, .int .i64 back.y1, .int .i64 back.y2, .int .i64 back.z1, .int .i64 back.z2] 38)) = W1 at *
 have c_G3_0 := blk_cell G3.out 0 _ rfl
 have f_G3_0 := blk_frozen G3.out 0
 have l_G3 := blk_lt G3.out
 go_wp2_with fail
 clear c_G3_0 f_G3_0 l_G3
 go_loopw [11] (fun i wr => ∃ k : Nat, k ≤ cs.length ∧ i = .int .i64 k ∧ (∀ (j : Nat) (c : Cl), j < k → cs[j]? = some c → hitC there back c = false) ∧ Hid (Below w.heap.size w wr) ∧ Hid (OC B wr (.slice A0 cs.length c0) cs hs) ∧ Hid (wr.heap[g3]? = some (.cells #[.slice A0 cs.length c0] 27)) ∧ Hid (wr.heap[w.heap.size]? = some (.cells #[.int .i64 (p.1 : Int), .int .i64 (p.2 : Int)] 43)) ∧ Hid (wr.heap[w.heap.size + 1]? = some (.cells #[.int .i64 there.x1, .int .i64 there.x2, .int .i64 there.y1, .int .i64 there.y2, .int .i64 there.z1, .int .i64 there.z2] 38)) ∧ Hid (wr.heap[w.heap.size + 1 + 1]? = some (.cells #[.int .i64 back.x1, .int .i64 back.x2, .int .i64 back.y1, .int .i64 back.y2, .int .i64 back.z1, .int .i64 back.z2] 38))) (fun i _ => cs.length - (intOf i).toNat)
 case atStart => exact ⟨0, by omega, rfl, fun j c hj => absurd hj (by omega), NN, OX, G3, P, X, Y⟩
 case round =>
  clear NN OX G3 P X Y
  obtain ⟨k, hk, rfl, hno, NN, OX, G3, P, X, Y⟩ := hrel
  have HNO := Lib.hid hno
  clear hno
  by_cases hlt : k < cs.length
  ·obtain ⟨c, hc⟩ := get_some hlt
   obtain ⟨u, hu⟩ := get_some (show k < hs.length by rw [OX.out.len]; exact hlt)
   have kk : k + 1 ≤ cs.length := hlt
   have kp : 0 < cs.length := by omega
   obtain ⟨gc, cur, rfl, hgB, hgc, hcl⟩ := OX.out.cells kp
   have CL := Lib.hid (fun X hX j y hy => hcl X hX k c u hc hu j y hy)
   obtain ⟨Au, cu, hu0, hun, huc, -⟩ := Rd.of_own (OX.out.inn k c u hc hu)
   subst hu0
   have HC := Lib.hid hc
   have HU := Lib.hid hu
   have BX := Lib.hid hgc
   have HGB := Lib.hid hgB
   have h28 := H28.out
   clear hc hu hgc hcl hgB hun huc kp
   have c_G3_0 := blk_cell G3.out 0 _ rfl
   have f_G3_0 := blk_frozen G3.out 0
   have l_G3 := blk_lt G3.out
   go_upto_region 5 with fail
   clear c_G3_0 f_G3_0 l_G3
   clear h28
   by_cases h1 : c.1 = there
   ·have d1 : decide (c.1 = there) = true := decide_eq_true h1
    have HIT : Hid (hitC there back c = true) := Lib.hid (by unfold hitC; rw [d1]; rfl)
    clear h1
    have HDRW := Lib.hid (Below.drew (Below.refl wr.heap.size wr))
    replace NN := Lib.hid (Bgo NN.out HDRW.out)
    replace OX := Lib.hid (OC.next OX.out HDRW.out)
    replace BX := Lib.hid (blk_next HDRW.out BX.out)
    replace G3 := Lib.hid (blk_next HDRW.out G3.out)
    replace P := Lib.hid (blk_next HDRW.out P.out)
    replace X := Lib.hid (blk_next HDRW.out X.out)
    replace Y := Lib.hid (blk_next HDRW.out Y.out)
    clear HDRW
    have HAL : Hid (∀ kx9 : Nat, GK [(3, gc, .cells cur 40), (4, w.heap.size + 1, .cells #[.int .i64 there.x1, .int .i64 there.x2, .int .i64 there.y1, .int .i64 there.y2, .int .i64 there.z1, .int .i64 there.z2] 38)] kx9 wr.drew) := Lib.hid (fun kx9 => fun px9 hp e => by
     simp only [List.mem_cons, List.not_mem_nil, or_false] at hp
     rcases hp with rfl | rfl
     ·exact BX.out
     ·exact X.out
    )
    refine region_G (S := GK [(3, gc, .cells cur 40), (4, w.heap.size + 1, .cells #[.int .i64 there.x1, .int .i64 there.x2, .int .i64 there.y1, .int .i64 there.y2, .int .i64 there.z1, .int .i64 there.z2] 38)]) (by kernel_rfl) ?_
    refine tG 0 (.pointer (some ⟨gc, k * 7, none⟩)) (some 17) (GK.grow _) rfl (YieldsIf.toG (Or.inl ⟨by rfl, ?_⟩)) (GK.drop (by simp)) ?_
    ·intro X hX
     clear hX
     go_simp
    try simp only [Act.put, zA, zB, zC]
    refine tG 1 (.pointer (some ⟨gc, k * 7, none⟩)) (some 18) (GK.grow _) rfl (YieldsIf.toG (Or.inl ⟨by rfl, ?_⟩)) (GK.drop (by simp)) ?_
    ·intro X hX
     clear hX
     go_simp
    try simp only [Act.put, zA, zB, zC]
    refine tG 2 (.pointer (some ⟨gc, k * 7, none⟩)) (some 19) (GK.grow _) rfl (YieldsIf.toG (Or.inl ⟨by rfl, ?_⟩)) (GK.drop (by simp)) ?_
    ·intro X hX
     clear hX
     go_simp
    try simp only [Act.put, zA, zB, zC]
    refine tG 3 (.agg #[.int .i64 c.1.x1, .int .i64 c.1.x2, .int .i64 c.1.y1, .int .i64 c.1.y2, .int .i64 c.1.z1, .int .i64 c.1.z2]) (some 20) (GK.grow _) rfl (YieldsIf.toG (Or.inl ⟨by rfl, ?_⟩)) (HAL.out 3) ?_
    ·intro X hX
     have hh := hX (3, gc, .cells cur 40) (List.Mem.head _) rfl
     have hh0 := CL.out _ hh 0 _ rfl
     simp only [Nat.add_zero] at hh0
     have hh1 := CL.out _ hh 1 _ rfl
     have hh2 := CL.out _ hh 2 _ rfl
     have hh3 := CL.out _ hh 3 _ rfl
     have hh4 := CL.out _ hh 4 _ rfl
     have hh5 := CL.out _ hh 5 _ rfl
     have hhl := blk_lt hh
     clear hh
     clear hX
     go_simp
    try simp only [Act.put, zA, zB, zC]
    refine tG 4 (.agg #[.int .i64 there.x1, .int .i64 there.x2, .int .i64 there.y1, .int .i64 there.y2, .int .i64 there.z1, .int .i64 there.z2]) (some 21) (GK.grow _) rfl (YieldsIf.toG (Or.inl ⟨by rfl, ?_⟩)) (HAL.out 4) ?_
    ·intro X hX
     have hh := hX (4, w.heap.size + 1, .cells #[.int .i64 there.x1, .int .i64 there.x2, .int .i64 there.y1, .int .i64 there.y2, .int .i64 there.z1, .int .i64 there.z2] 38) (List.Mem.tail _ (List.Mem.head _)) rfl
     have hh0 := blk_cell hh 0 _ rfl
     have hh1 := blk_cell hh 1 _ rfl
     have hh2 := blk_cell hh 2 _ rfl
     have hh3 := blk_cell hh 3 _ rfl
     have hh4 := blk_cell hh 4 _ rfl
     have hh5 := blk_cell hh 5 _ rfl
     have hhl := blk_lt hh
     clear hh
     clear hX
     go_simp
    try simp only [Act.put, zA, zB, zC]
    refine tG 5 (.bool true) (some 22) (GK.grow _) rfl (YieldsIf.toG (Or.inl ⟨by rfl, ?_⟩)) (GK.drop (by simp)) ?_
    ·intro X hX
     clear hX
     go_simp
    try simp only [Act.put, zA, zB, zC]
    refine tG 6 (.bool true) (some 23) (GK.grow _) rfl (YieldsIf.toG (Or.inl ⟨by rfl, ?_⟩)) (GK.drop (by simp)) ?_
    ·intro X hX
     clear hX
     go_simp
    try simp only [Act.put, zA, zB, zC]
    refine tG 7 (undef) (some 24) (GK.grow _) rfl (YieldsIf.toG (Or.inr ⟨by rfl, rfl⟩)) (GK.drop (by simp)) ?_
    try simp only [Act.put, zA, zB, zC]
    refine tG 8 (undef) (some 25) (GK.grow _) rfl (YieldsIf.toG (Or.inr ⟨by rfl, rfl⟩)) (GK.drop (by simp)) ?_
    try simp only [Act.put, zA, zB, zC]
    refine tG 9 (undef) (some 26) (GK.grow _) rfl (YieldsIf.toG (Or.inr ⟨by rfl, rfl⟩)) (GK.drop (by simp)) ?_
    try simp only [Act.put, zA, zB, zC]
    refine tG 10 (undef) (some 27) (GK.grow _) rfl (YieldsIf.toG (Or.inr ⟨by rfl, rfl⟩)) (GK.drop (by simp)) ?_
    try simp only [Act.put, zA, zB, zC]
    refine tG 11 (undef) (some 28) (GK.grow _) rfl (YieldsIf.toG (Or.inr ⟨by rfl, rfl⟩)) (GK.drop (by simp)) ?_
    try simp only [Act.put, zA, zB, zC]
    refine tG 12 (undef) (some 29) (GK.grow _) rfl (YieldsIf.toG (Or.inr ⟨by rfl, rfl⟩)) (GK.drop (by simp)) ?_
    try simp only [Act.put, zA, zB, zC]
    refine tG 13 (.bool true) (some 30) (GK.grow _) rfl (YieldsIf.toG (Or.inl ⟨by rfl, ?_⟩)) (GK.drop (by simp)) ?_
    ·intro X hX
     clear hX
     go_simp
    try simp only [Act.put, zA, zB, zC]
    clear HAL
    refine done_G (by kernel_rfl) (fun X2 hX => ?_) _
    replace NN := Lib.hid (Bgo NN.out hX)
    replace OX := Lib.hid (OC.next OX.out hX)
    replace BX := Lib.hid (blk_next hX BX.out)
    replace G3 := Lib.hid (blk_next hX G3.out)
    replace P := Lib.hid (blk_next hX P.out)
    replace X := Lib.hid (blk_next hX X.out)
    replace Y := Lib.hid (blk_next hX Y.out)
    clear hX
    go_upto_region 6 with fail
    obtain ⟨i0, hi, hz, hs0, hb0⟩ := info_parts infoR
    have HI := Lib.hid (And.intro hi (And.intro hz (And.intro hs0 hb0)))
    clear hi hz hs0 hb0
    have NB := Lib.hid (NN.out.mono HW.out)
    have KF : Hid (KeepsFrom B w X2) := Lib.hid ((keeps_of_below NN.out))
    have LB := Lib.hid (Nat.le_trans HW.out NN.out.size)
    have HQC := Lib.hid (HQ.out c (List.mem_of_getElem? HC.out))
    have HDRW := Lib.hid (Below.drew (Below.refl X2.heap.size X2))
    replace NN := Lib.hid (Bgo NN.out HDRW.out)
    replace OX := Lib.hid (OC.next OX.out HDRW.out)
    replace BX := Lib.hid (blk_next HDRW.out BX.out)
    replace NB := Lib.hid (NB.out.trans (HDRW.out.mono LB.out))
    replace KF := Lib.hid (KF.out.trans (keeps_of_below HDRW.out))
    replace LB := Lib.hid (Nat.le_trans LB.out HDRW.out.size)
    replace G3 := Lib.hid (blk_next HDRW.out G3.out)
    replace P := Lib.hid (blk_next HDRW.out P.out)
    replace X := Lib.hid (blk_next HDRW.out X.out)
    replace Y := Lib.hid (blk_next HDRW.out Y.out)
    clear HDRW
    have HAL : Hid (∀ kx9 : Nat, GK [(4, gc, .cells cur 40), (5, w.heap.size, .cells #[.int .i64 (p.1 : Int), .int .i64 (p.2 : Int)] 43)] kx9 X2.drew) := Lib.hid (fun kx9 => fun px9 hp e => by
     simp only [List.mem_cons, List.not_mem_nil, or_false] at hp
     rcases hp with rfl | rfl
     ·exact BX.out
     ·exact P.out
    )
    refine region_G (S := GK [(4, gc, .cells cur 40), (5, w.heap.size, .cells #[.int .i64 (p.1 : Int), .int .i64 (p.2 : Int)] 43)]) (by kernel_rfl) ?_
    refine tG 0 (.pointer (some ⟨gc, k * 7, none⟩)) (some 31) (GK.grow _) rfl (YieldsIf.toG (Or.inl ⟨by rfl, ?_⟩)) (GK.drop (by simp)) ?_
    ·intro X hX
     clear hX
     go_simp
    try simp only [Act.put, zA, zB, zC]
    refine tG 1 (.pointer (some ⟨gc, k * 7, none⟩)) (some 32) (GK.grow _) rfl (YieldsIf.toG (Or.inl ⟨by rfl, ?_⟩)) (GK.drop (by simp)) ?_
    ·intro X hX
     clear hX
     go_simp
    try simp only [Act.put, zA, zB, zC]
    refine tG 2 (.pointer (some ⟨gc, k * 7, none⟩)) (some 33) (GK.grow _) rfl (YieldsIf.toG (Or.inl ⟨by rfl, ?_⟩)) (GK.drop (by simp)) ?_
    ·intro X hX
     clear hX
     go_simp
    try simp only [Act.put, zA, zB, zC]
    refine tG 3 (.pointer (some ⟨gc, k * 7 + 6, none⟩)) (some 34) (GK.grow _) rfl (YieldsIf.toG (Or.inl ⟨by rfl, ?_⟩)) (GK.drop (by simp)) ?_
    ·intro X hX
     clear hX
     go_simp
    try simp only [Act.put, zA, zB, zC]
    refine tG 4 (.slice Au c.2.length cu) (some 35) (GK.grow _) rfl (YieldsIf.toG (Or.inl ⟨by rfl, ?_⟩)) (HAL.out 4) ?_
    ·intro X hX
     have hh := hX (4, gc, .cells cur 40) (List.Mem.head _) rfl
     have hh0 := CL.out _ hh 6 _ rfl
     have hhl := blk_lt hh
     clear hh
     clear hX
     go_simp
    try simp only [Act.put, zA, zB, zC]
    refine tG 5 (.agg #[.int .i64 (p.1 : Int), .int .i64 (p.2 : Int)]) (some 36) (GK.grow _) rfl (YieldsIf.toG (Or.inl ⟨by rfl, ?_⟩)) (HAL.out 5) ?_
    ·intro X hX
     have hh := hX (5, w.heap.size, .cells #[.int .i64 (p.1 : Int), .int .i64 (p.2 : Int)] 43) (List.Mem.tail _ (List.Mem.head _)) rfl
     have hh0 := blk_cell hh 0 _ rfl
     have hh1 := blk_cell hh 1 _ rfl
     have hhl := blk_lt hh
     clear hh
     clear hX
     go_simp
    try simp only [Act.put, zA, zB, zC]
    refine only_G 6 (by kernel_rfl) rfl (fun X3 hX K' hK' => ?_)
    replace NN := Lib.hid (Bgo NN.out hX)
    replace OX := Lib.hid (OC.next OX.out hX)
    replace BX := Lib.hid (blk_next hX BX.out)
    replace NB := Lib.hid (NB.out.trans (hX.mono LB.out))
    replace KF := Lib.hid (KF.out.trans (keeps_of_below hX))
    replace LB := Lib.hid (Nat.le_trans LB.out hX.size)
    replace G3 := Lib.hid (blk_next hX G3.out)
    replace P := Lib.hid (blk_next hX P.out)
    replace X := Lib.hid (blk_next hX X.out)
    replace Y := Lib.hid (blk_next hX Y.out)
    replace HAL := Lib.hid (fun kx9 => GK.grow _ _ _ _ (HAL.out kx9) hX)
    clear hX
    go_simp
    refine hK'.out _ _ (fun _ _ h => h.alloc _) ?_
    clear hK' K'
    try simp only [Act.put, zA, zB, zC]
    have HB := Lib.hid (Bal (Below.refl X3.heap.size X3) (.cells #[.int .i64 (p.1 : Int), .int .i64 (p.2 : Int)] 43))
    have SL : Hid ((X3.alloc (.cells #[.int .i64 (p.1 : Int), .int .i64 (p.2 : Int)] 43)).heap[X3.heap.size]? = some (.cells #[.int .i64 (p.1 : Int), .int .i64 (p.2 : Int)] 43)) := Lib.hid (blk_new X3 (.cells #[.int .i64 (p.1 : Int), .int .i64 (p.2 : Int)] 43))
    replace NN := Lib.hid (Bgo NN.out HB.out)
    replace OX := Lib.hid (OC.next OX.out HB.out)
    replace BX := Lib.hid (blk_next HB.out BX.out)
    replace NB := Lib.hid (NB.out.trans (HB.out.mono LB.out))
    replace KF := Lib.hid (KF.out.trans (keeps_of_below HB.out))
    replace LB := Lib.hid (Nat.le_trans LB.out HB.out.size)
    replace G3 := Lib.hid (blk_next HB.out G3.out)
    replace P := Lib.hid (blk_next HB.out P.out)
    replace X := Lib.hid (blk_next HB.out X.out)
    replace Y := Lib.hid (blk_next HB.out Y.out)
    replace HAL := Lib.hid (fun kx9 => GK.grow _ _ _ _ (HAL.out kx9) HB.out)
    clear HB
    generalize X3.alloc (.cells #[.int .i64 (p.1 : Int), .int .i64 (p.2 : Int)] 43) = W4 at *
    generalize X3.heap.size = gSL at *
    refine only_G 7 (by kernel_rfl) rfl (fun X5 hX K' hK' => ?_)
    replace NN := Lib.hid (Bgo NN.out hX)
    replace OX := Lib.hid (OC.next OX.out hX)
    replace BX := Lib.hid (blk_next hX BX.out)
    replace NB := Lib.hid (NB.out.trans (hX.mono LB.out))
    replace KF := Lib.hid (KF.out.trans (keeps_of_below hX))
    replace LB := Lib.hid (Nat.le_trans LB.out hX.size)
    replace G3 := Lib.hid (blk_next hX G3.out)
    replace P := Lib.hid (blk_next hX P.out)
    replace X := Lib.hid (blk_next hX X.out)
    replace Y := Lib.hid (blk_next hX Y.out)
    replace SL := Lib.hid (blk_next hX SL.out)
    replace HAL := Lib.hid (fun kx9 => GK.grow _ _ _ _ (HAL.out kx9) hX)
    clear hX
    refine step_append_rd (P := Tryz.prog) X5 rfl _ _ 31 rfl B 43 i0 (.agg #[.int .i64 0, .int .i64 0]) 2 16 und_prs HI.out.1 HI.out.2.1 HI.out.2.2.1 HI.out.2.2.2 rfl (by decide) (.slice Au c.2.length cu) _ _ rfl (OX.out.inn k c _ HC.out HU.out) (some ⟨gSL, 0, none⟩) 1 1 (pr2 p) rfl (Rd.blk SL.out rfl) (pr2_one p) ?_ ?_ LB.out ?_
    ·have := HQC.out; simp [maxLen]; omega
    ·have := HQC.out; omega
    intro v9 w9 o9 g9 t9
    obtain ⟨A9, c9, hv9, -, -, -⟩ := Rd.of_own o9
    subst hv9
    have OW := Lib.hid (OX.out.inn k c _ HC.out HU.out)
    have BG := Lib.hid (own_grown OW.out g9 LB.out)
    have KG := Lib.hid ((own_keeps OW.out g9).from B)
    have OY : Hid (OC1 B w9 (.slice (some ⟨gc, 0, none⟩) cs.length c0) cs hs k (.slice A9 (c.2.length + 1) c9) (c.2 ++ [p])) := Lib.hid (OX.out.grow HC.out HU.out (by unfold OPr; rw [List.length_append, List.flatMap_append]; simpa using o9) g9 t9)
    refine hK'.out _ _ (fun kk hk hS => ?_) ?_
    ·intro px9 hp e
     simp only [List.mem_cons, List.not_mem_nil, or_false] at hp
     rcases hp with rfl | rfl <;> (subst e; exact bfl (by kernel_rfl) hk)
    clear hK' K' HAL
    try simp only [Act.put, zA, zB, zC]
    replace G3 := Lib.hid (blk_B BG.out G3.out HB.out)
    replace NB := Lib.hid (NB.out.trans BG.out)
    replace KF := Lib.hid (KF.out.trans KG.out)
    replace LB := Lib.hid (Nat.le_trans LB.out BG.out.size)
    clear NN OX BX SL P X Y g9 o9 t9 BG KG OW
    refine tG 8 (.pointer (some ⟨gc, k * 7, none⟩)) (some 39) (GK.grow _) rfl (YieldsIf.toG (Or.inl ⟨by rfl, ?_⟩)) (GK.drop (by simp)) ?_
    ·intro X hX
     clear hX
     go_simp
    try simp only [Act.put, zA, zB, zC]
    refine tG 9 (.pointer (some ⟨gc, k * 7 + 6, none⟩)) (some 40) (GK.grow _) rfl (YieldsIf.toG (Or.inl ⟨by rfl, ?_⟩)) (GK.drop (by simp)) ?_
    ·intro X hX
     clear hX
     go_simp
    try simp only [Act.put, zA, zB, zC]
    refine only_G 10 (by kernel_rfl) rfl (fun X6 hX K' hK' => ?_)
    replace NB := Lib.hid (NB.out.trans (hX.mono LB.out))
    replace KF := Lib.hid (KF.out.trans (keeps_of_below hX))
    replace LB := Lib.hid (Nat.le_trans LB.out hX.size)
    replace OY := Lib.hid (OC1.next OY.out hX)
    replace G3 := Lib.hid (blk_next hX G3.out)
    skip
    clear hX
    have cc := (OY.out.cell HC.out HU.out).1
    have cl := (OY.out.cell HC.out HU.out).2
    have cf := OY.out.row.frozenAt (k * 7 + 6)
    go_simp
    clear cc cl cf
    refine hK'.out _ _ (fun kk hk hS => ?_) ?_
    ·intro px9 hp e
     simp only [List.mem_cons, List.not_mem_nil, or_false] at hp
     rcases hp with rfl | rfl <;> (subst e; exact bfl (by kernel_rfl) hk)
    clear hK' K'
    try simp only [Act.put, zA, zB, zC]
    obtain ⟨o1, -⟩ := OY.out.store HC.out
    have OX := Lib.hid o1
    have CB := Lib.hid ((OY.out.cell HC.out HU.out).2)
    clear o1 OY
    replace G3 := Lib.hid (blk_set_other G3.out (show gc ≠ g3 by have := HB.out; have := HGB.out; omega) (k * 7 + 6) (.slice A9 (c.2.length + 1) c9))
    replace NB := Lib.hid (NB.out.setCell (p := ⟨gc, k * 7 + 6, none⟩) HGB.out (.slice A9 (c.2.length + 1) c9))
    replace KF := Lib.hid (keep_set KF.out gc (k * 7 + 6) (.slice A9 (c.2.length + 1) c9))
    replace LB : Hid (B ≤ (X6.setCell ⟨gc, k * 7 + 6, none⟩ (.slice A9 (c.2.length + 1) c9)).heap.size) := Lib.hid (by simpa using LB.out)
    clear CB
    generalize X6.setCell ⟨gc, k * 7 + 6, none⟩ (.slice A9 (c.2.length + 1) c9) = w8 at *
    refine done_G (by kernel_rfl) (fun X7 hX => ?_) _
    replace NB := Lib.hid (NB.out.trans (hX.mono LB.out))
    replace KF := Lib.hid (KF.out.trans (keeps_of_below hX))
    replace LB := Lib.hid (Nat.le_trans LB.out hX.size)
    replace OX := Lib.hid (OC.next OX.out hX)
    replace G3 := Lib.hid (blk_next hX G3.out)
    clear hX
    go_wp2_with fail
    exact bodyPost_ret (v := .tuple #[]) (by simp [results, Tryz.results37, go_sem]) rfl ⟨⟨_, rfl⟩, KF.out, _, _, below_set_same NB.out HG0.out, G3.out, by rw [putC_hit HC.out HNO.out HIT.out]; exact OX.out⟩
   by_cases h2 : c.1 = back
   ·have d1 : decide (c.1 = there) = false := decide_eq_false h1
    have d2 : decide (c.1 = back) = true := decide_eq_true h2
    have HIT : Hid (hitC there back c = true) := Lib.hid (by unfold hitC; rw [d2]; simp)
    clear h1 h2
    have HDRW := Lib.hid (Below.drew (Below.refl wr.heap.size wr))
    replace NN := Lib.hid (Bgo NN.out HDRW.out)
    replace OX := Lib.hid (OC.next OX.out HDRW.out)
    replace BX := Lib.hid (blk_next HDRW.out BX.out)
    replace G3 := Lib.hid (blk_next HDRW.out G3.out)
    replace P := Lib.hid (blk_next HDRW.out P.out)
    replace X := Lib.hid (blk_next HDRW.out X.out)
    replace Y := Lib.hid (blk_next HDRW.out Y.out)
    clear HDRW
    have HAL : Hid (∀ kx9 : Nat, GK [(3, gc, .cells cur 40), (4, w.heap.size + 1, .cells #[.int .i64 there.x1, .int .i64 there.x2, .int .i64 there.y1, .int .i64 there.y2, .int .i64 there.z1, .int .i64 there.z2] 38), (10, gc, .cells cur 40), (11, w.heap.size + 1 + 1, .cells #[.int .i64 back.x1, .int .i64 back.x2, .int .i64 back.y1, .int .i64 back.y2, .int .i64 back.z1, .int .i64 back.z2] 38)] kx9 wr.drew) := Lib.hid (fun kx9 => fun px9 hp e => by
     simp only [List.mem_cons, List.not_mem_nil, or_false] at hp
     rcases hp with rfl | rfl | rfl | rfl
     ·exact BX.out
     ·exact X.out
     ·exact BX.out
     ·exact Y.out
    )
    refine region_G (S := GK [(3, gc, .cells cur 40), (4, w.heap.size + 1, .cells #[.int .i64 there.x1, .int .i64 there.x2, .int .i64 there.y1, .int .i64 there.y2, .int .i64 there.z1, .int .i64 there.z2] 38), (10, gc, .cells cur 40), (11, w.heap.size + 1 + 1, .cells #[.int .i64 back.x1, .int .i64 back.x2, .int .i64 back.y1, .int .i64 back.y2, .int .i64 back.z1, .int .i64 back.z2] 38)]) (by kernel_rfl) ?_
    refine tG 0 (.pointer (some ⟨gc, k * 7, none⟩)) (some 17) (GK.grow _) rfl (YieldsIf.toG (Or.inl ⟨by rfl, ?_⟩)) (GK.drop (by simp)) ?_
    ·intro X hX
     clear hX
     go_simp
    try simp only [Act.put, zA, zB, zC]
    refine tG 1 (.pointer (some ⟨gc, k * 7, none⟩)) (some 18) (GK.grow _) rfl (YieldsIf.toG (Or.inl ⟨by rfl, ?_⟩)) (GK.drop (by simp)) ?_
    ·intro X hX
     clear hX
     go_simp
    try simp only [Act.put, zA, zB, zC]
    refine tG 2 (.pointer (some ⟨gc, k * 7, none⟩)) (some 19) (GK.grow _) rfl (YieldsIf.toG (Or.inl ⟨by rfl, ?_⟩)) (GK.drop (by simp)) ?_
    ·intro X hX
     clear hX
     go_simp
    try simp only [Act.put, zA, zB, zC]
    refine tG 3 (.agg #[.int .i64 c.1.x1, .int .i64 c.1.x2, .int .i64 c.1.y1, .int .i64 c.1.y2, .int .i64 c.1.z1, .int .i64 c.1.z2]) (some 20) (GK.grow _) rfl (YieldsIf.toG (Or.inl ⟨by rfl, ?_⟩)) (HAL.out 3) ?_
    ·intro X hX
     have hh := hX (3, gc, .cells cur 40) (List.Mem.head _) rfl
     have hh0 := CL.out _ hh 0 _ rfl
     simp only [Nat.add_zero] at hh0
     have hh1 := CL.out _ hh 1 _ rfl
     have hh2 := CL.out _ hh 2 _ rfl
     have hh3 := CL.out _ hh 3 _ rfl
     have hh4 := CL.out _ hh 4 _ rfl
     have hh5 := CL.out _ hh 5 _ rfl
     have hhl := blk_lt hh
     clear hh
     clear hX
     go_simp
    try simp only [Act.put, zA, zB, zC]
    refine tG 4 (.agg #[.int .i64 there.x1, .int .i64 there.x2, .int .i64 there.y1, .int .i64 there.y2, .int .i64 there.z1, .int .i64 there.z2]) (some 21) (GK.grow _) rfl (YieldsIf.toG (Or.inl ⟨by rfl, ?_⟩)) (HAL.out 4) ?_
    ·intro X hX
     have hh := hX (4, w.heap.size + 1, .cells #[.int .i64 there.x1, .int .i64 there.x2, .int .i64 there.y1, .int .i64 there.y2, .int .i64 there.z1, .int .i64 there.z2] 38) (List.Mem.tail _ (List.Mem.head _)) rfl
     have hh0 := blk_cell hh 0 _ rfl
     have hh1 := blk_cell hh 1 _ rfl
     have hh2 := blk_cell hh 2 _ rfl
     have hh3 := blk_cell hh 3 _ rfl
     have hh4 := blk_cell hh 4 _ rfl
     have hh5 := blk_cell hh 5 _ rfl
     have hhl := blk_lt hh
     clear hh
     clear hX
     go_simp
    try simp only [Act.put, zA, zB, zC]
    refine tG 5 (.bool false) (some 22) (GK.grow _) rfl (YieldsIf.toG (Or.inl ⟨by rfl, ?_⟩)) (GK.drop (by simp)) ?_
    ·intro X hX
     clear hX
     go_simp
    try simp only [Act.put, zA, zB, zC]
    refine tG 6 (.bool false) (some 23) (GK.grow _) rfl (YieldsIf.toG (Or.inl ⟨by rfl, ?_⟩)) (GK.drop (by simp)) ?_
    ·intro X hX
     clear hX
     go_simp
    try simp only [Act.put, zA, zB, zC]
    refine tG 7 (.pointer (some ⟨gc, k * 7, none⟩)) (some 24) (GK.grow _) rfl (YieldsIf.toG (Or.inl ⟨by rfl, ?_⟩)) (GK.drop (by simp)) ?_
    ·intro X hX
     clear hX
     go_simp
    try simp only [Act.put, zA, zB, zC]
    refine tG 8 (.pointer (some ⟨gc, k * 7, none⟩)) (some 25) (GK.grow _) rfl (YieldsIf.toG (Or.inl ⟨by rfl, ?_⟩)) (GK.drop (by simp)) ?_
    ·intro X hX
     clear hX
     go_simp
    try simp only [Act.put, zA, zB, zC]
    refine tG 9 (.pointer (some ⟨gc, k * 7, none⟩)) (some 26) (GK.grow _) rfl (YieldsIf.toG (Or.inl ⟨by rfl, ?_⟩)) (GK.drop (by simp)) ?_
    ·intro X hX
     clear hX
     go_simp
    try simp only [Act.put, zA, zB, zC]
    refine tG 10 (.agg #[.int .i64 c.1.x1, .int .i64 c.1.x2, .int .i64 c.1.y1, .int .i64 c.1.y2, .int .i64 c.1.z1, .int .i64 c.1.z2]) (some 27) (GK.grow _) rfl (YieldsIf.toG (Or.inl ⟨by rfl, ?_⟩)) (HAL.out 10) ?_
    ·intro X hX
     have hh := hX (10, gc, .cells cur 40) (List.Mem.tail _ (List.Mem.tail _ (List.Mem.head _))) rfl
     have hh0 := CL.out _ hh 0 _ rfl
     simp only [Nat.add_zero] at hh0
     have hh1 := CL.out _ hh 1 _ rfl
     have hh2 := CL.out _ hh 2 _ rfl
     have hh3 := CL.out _ hh 3 _ rfl
     have hh4 := CL.out _ hh 4 _ rfl
     have hh5 := CL.out _ hh 5 _ rfl
     have hhl := blk_lt hh
     clear hh
     clear hX
     go_simp
    try simp only [Act.put, zA, zB, zC]
    refine tG 11 (.agg #[.int .i64 back.x1, .int .i64 back.x2, .int .i64 back.y1, .int .i64 back.y2, .int .i64 back.z1, .int .i64 back.z2]) (some 28) (GK.grow _) rfl (YieldsIf.toG (Or.inl ⟨by rfl, ?_⟩)) (HAL.out 11) ?_
    ·intro X hX
     have hh := hX (11, w.heap.size + 1 + 1, .cells #[.int .i64 back.x1, .int .i64 back.x2, .int .i64 back.y1, .int .i64 back.y2, .int .i64 back.z1, .int .i64 back.z2] 38) (List.Mem.tail _ (List.Mem.tail _ (List.Mem.tail _ (List.Mem.head _)))) rfl
     have hh0 := blk_cell hh 0 _ rfl
     have hh1 := blk_cell hh 1 _ rfl
     have hh2 := blk_cell hh 2 _ rfl
     have hh3 := blk_cell hh 3 _ rfl
     have hh4 := blk_cell hh 4 _ rfl
     have hh5 := blk_cell hh 5 _ rfl
     have hhl := blk_lt hh
     clear hh
     clear hX
     go_simp
    try simp only [Act.put, zA, zB, zC]
    refine tG 12 (.bool true) (some 29) (GK.grow _) rfl (YieldsIf.toG (Or.inl ⟨by rfl, ?_⟩)) (GK.drop (by simp)) ?_
    ·intro X hX
     clear hX
     go_simp
    try simp only [Act.put, zA, zB, zC]
    refine tG 13 (.bool true) (some 30) (GK.grow _) rfl (YieldsIf.toG (Or.inl ⟨by rfl, ?_⟩)) (GK.drop (by simp)) ?_
    ·intro X hX
     clear hX
     go_simp
    try simp only [Act.put, zA, zB, zC]
    clear HAL
    refine done_G (by kernel_rfl) (fun X8 hX => ?_) _
    replace NN := Lib.hid (Bgo NN.out hX)
    replace OX := Lib.hid (OC.next OX.out hX)
    replace BX := Lib.hid (blk_next hX BX.out)
    replace G3 := Lib.hid (blk_next hX G3.out)
    replace P := Lib.hid (blk_next hX P.out)
    replace X := Lib.hid (blk_next hX X.out)
    replace Y := Lib.hid (blk_next hX Y.out)
    clear hX
    go_upto_region 6 with fail
    obtain ⟨i0, hi, hz, hs0, hb0⟩ := info_parts infoR
    have HI := Lib.hid (And.intro hi (And.intro hz (And.intro hs0 hb0)))
    clear hi hz hs0 hb0
    have NB := Lib.hid (NN.out.mono HW.out)
    have KF : Hid (KeepsFrom B w X8) := Lib.hid ((keeps_of_below NN.out))
    have LB := Lib.hid (Nat.le_trans HW.out NN.out.size)
    have HQC := Lib.hid (HQ.out c (List.mem_of_getElem? HC.out))
    have HDRW := Lib.hid (Below.drew (Below.refl X8.heap.size X8))
    replace NN := Lib.hid (Bgo NN.out HDRW.out)
    replace OX := Lib.hid (OC.next OX.out HDRW.out)
    replace BX := Lib.hid (blk_next HDRW.out BX.out)
    replace NB := Lib.hid (NB.out.trans (HDRW.out.mono LB.out))
    replace KF := Lib.hid (KF.out.trans (keeps_of_below HDRW.out))
    replace LB := Lib.hid (Nat.le_trans LB.out HDRW.out.size)
    replace G3 := Lib.hid (blk_next HDRW.out G3.out)
    replace P := Lib.hid (blk_next HDRW.out P.out)
    replace X := Lib.hid (blk_next HDRW.out X.out)
    replace Y := Lib.hid (blk_next HDRW.out Y.out)
    clear HDRW
    have HAL : Hid (∀ kx9 : Nat, GK [(4, gc, .cells cur 40), (5, w.heap.size, .cells #[.int .i64 (p.1 : Int), .int .i64 (p.2 : Int)] 43)] kx9 X8.drew) := Lib.hid (fun kx9 => fun px9 hp e => by
     simp only [List.mem_cons, List.not_mem_nil, or_false] at hp
     rcases hp with rfl | rfl
     ·exact BX.out
     ·exact P.out
    )
    refine region_G (S := GK [(4, gc, .cells cur 40), (5, w.heap.size, .cells #[.int .i64 (p.1 : Int), .int .i64 (p.2 : Int)] 43)]) (by kernel_rfl) ?_
    refine tG 0 (.pointer (some ⟨gc, k * 7, none⟩)) (some 31) (GK.grow _) rfl (YieldsIf.toG (Or.inl ⟨by rfl, ?_⟩)) (GK.drop (by simp)) ?_
    ·intro X hX
     clear hX
     go_simp
    try simp only [Act.put, zA, zB, zC]
    refine tG 1 (.pointer (some ⟨gc, k * 7, none⟩)) (some 32) (GK.grow _) rfl (YieldsIf.toG (Or.inl ⟨by rfl, ?_⟩)) (GK.drop (by simp)) ?_
    ·intro X hX
     clear hX
     go_simp
    try simp only [Act.put, zA, zB, zC]
    refine tG 2 (.pointer (some ⟨gc, k * 7, none⟩)) (some 33) (GK.grow _) rfl (YieldsIf.toG (Or.inl ⟨by rfl, ?_⟩)) (GK.drop (by simp)) ?_
    ·intro X hX
     clear hX
     go_simp
    try simp only [Act.put, zA, zB, zC]
    refine tG 3 (.pointer (some ⟨gc, k * 7 + 6, none⟩)) (some 34) (GK.grow _) rfl (YieldsIf.toG (Or.inl ⟨by rfl, ?_⟩)) (GK.drop (by simp)) ?_
    ·intro X hX
     clear hX
     go_simp
    try simp only [Act.put, zA, zB, zC]
    refine tG 4 (.slice Au c.2.length cu) (some 35) (GK.grow _) rfl (YieldsIf.toG (Or.inl ⟨by rfl, ?_⟩)) (HAL.out 4) ?_
    ·intro X hX
     have hh := hX (4, gc, .cells cur 40) (List.Mem.head _) rfl
     have hh0 := CL.out _ hh 6 _ rfl
     have hhl := blk_lt hh
     clear hh
     clear hX
     go_simp
    try simp only [Act.put, zA, zB, zC]
    refine tG 5 (.agg #[.int .i64 (p.1 : Int), .int .i64 (p.2 : Int)]) (some 36) (GK.grow _) rfl (YieldsIf.toG (Or.inl ⟨by rfl, ?_⟩)) (HAL.out 5) ?_
    ·intro X hX
     have hh := hX (5, w.heap.size, .cells #[.int .i64 (p.1 : Int), .int .i64 (p.2 : Int)] 43) (List.Mem.tail _ (List.Mem.head _)) rfl
     have hh0 := blk_cell hh 0 _ rfl
     have hh1 := blk_cell hh 1 _ rfl
     have hhl := blk_lt hh
     clear hh
     clear hX
     go_simp
    try simp only [Act.put, zA, zB, zC]
    refine only_G 6 (by kernel_rfl) rfl (fun X9 hX K' hK' => ?_)
    replace NN := Lib.hid (Bgo NN.out hX)
    replace OX := Lib.hid (OC.next OX.out hX)
    replace BX := Lib.hid (blk_next hX BX.out)
    replace NB := Lib.hid (NB.out.trans (hX.mono LB.out))
    replace KF := Lib.hid (KF.out.trans (keeps_of_below hX))
    replace LB := Lib.hid (Nat.le_trans LB.out hX.size)
    replace G3 := Lib.hid (blk_next hX G3.out)
    replace P := Lib.hid (blk_next hX P.out)
    replace X := Lib.hid (blk_next hX X.out)
    replace Y := Lib.hid (blk_next hX Y.out)
    replace HAL := Lib.hid (fun kx9 => GK.grow _ _ _ _ (HAL.out kx9) hX)
    clear hX
    go_simp
    refine hK'.out _ _ (fun _ _ h => h.alloc _) ?_
    clear hK' K'
    try simp only [Act.put, zA, zB, zC]
    have HB := Lib.hid (Bal (Below.refl X9.heap.size X9) (.cells #[.int .i64 (p.1 : Int), .int .i64 (p.2 : Int)] 43))
    have SL : Hid ((X9.alloc (.cells #[.int .i64 (p.1 : Int), .int .i64 (p.2 : Int)] 43)).heap[X9.heap.size]? = some (.cells #[.int .i64 (p.1 : Int), .int .i64 (p.2 : Int)] 43)) := Lib.hid (blk_new X9 (.cells #[.int .i64 (p.1 : Int), .int .i64 (p.2 : Int)] 43))
    replace NN := Lib.hid (Bgo NN.out HB.out)
    replace OX := Lib.hid (OC.next OX.out HB.out)
    replace BX := Lib.hid (blk_next HB.out BX.out)
    replace NB := Lib.hid (NB.out.trans (HB.out.mono LB.out))
    replace KF := Lib.hid (KF.out.trans (keeps_of_below HB.out))
    replace LB := Lib.hid (Nat.le_trans LB.out HB.out.size)
    replace G3 := Lib.hid (blk_next HB.out G3.out)
    replace P := Lib.hid (blk_next HB.out P.out)
    replace X := Lib.hid (blk_next HB.out X.out)
    replace Y := Lib.hid (blk_next HB.out Y.out)
    replace HAL := Lib.hid (fun kx9 => GK.grow _ _ _ _ (HAL.out kx9) HB.out)
    clear HB
    generalize X9.alloc (.cells #[.int .i64 (p.1 : Int), .int .i64 (p.2 : Int)] 43) = W10 at *
    generalize X9.heap.size = gSL at *
    refine only_G 7 (by kernel_rfl) rfl (fun X11 hX K' hK' => ?_)
    replace NN := Lib.hid (Bgo NN.out hX)
    replace OX := Lib.hid (OC.next OX.out hX)
    replace BX := Lib.hid (blk_next hX BX.out)
    replace NB := Lib.hid (NB.out.trans (hX.mono LB.out))
    replace KF := Lib.hid (KF.out.trans (keeps_of_below hX))
    replace LB := Lib.hid (Nat.le_trans LB.out hX.size)
    replace G3 := Lib.hid (blk_next hX G3.out)
    replace P := Lib.hid (blk_next hX P.out)
    replace X := Lib.hid (blk_next hX X.out)
    replace Y := Lib.hid (blk_next hX Y.out)
    replace SL := Lib.hid (blk_next hX SL.out)
    replace HAL := Lib.hid (fun kx9 => GK.grow _ _ _ _ (HAL.out kx9) hX)
    clear hX
    refine step_append_rd (P := Tryz.prog) X11 rfl _ _ 31 rfl B 43 i0 (.agg #[.int .i64 0, .int .i64 0]) 2 16 und_prs HI.out.1 HI.out.2.1 HI.out.2.2.1 HI.out.2.2.2 rfl (by decide) (.slice Au c.2.length cu) _ _ rfl (OX.out.inn k c _ HC.out HU.out) (some ⟨gSL, 0, none⟩) 1 1 (pr2 p) rfl (Rd.blk SL.out rfl) (pr2_one p) ?_ ?_ LB.out ?_
    ·have := HQC.out; simp [maxLen]; omega
    ·have := HQC.out; omega
    intro v9 w9 o9 g9 t9
    obtain ⟨A9, c9, hv9, -, -, -⟩ := Rd.of_own o9
    subst hv9
    have OW := Lib.hid (OX.out.inn k c _ HC.out HU.out)
    have BG := Lib.hid (own_grown OW.out g9 LB.out)
    have KG := Lib.hid ((own_keeps OW.out g9).from B)
    have OY : Hid (OC1 B w9 (.slice (some ⟨gc, 0, none⟩) cs.length c0) cs hs k (.slice A9 (c.2.length + 1) c9) (c.2 ++ [p])) := Lib.hid (OX.out.grow HC.out HU.out (by unfold OPr; rw [List.length_append, List.flatMap_append]; simpa using o9) g9 t9)
    refine hK'.out _ _ (fun kk hk hS => ?_) ?_
    ·intro px9 hp e
     simp only [List.mem_cons, List.not_mem_nil, or_false] at hp
     rcases hp with rfl | rfl <;> (subst e; exact bfl (by kernel_rfl) hk)
    clear hK' K' HAL
    try simp only [Act.put, zA, zB, zC]
    replace G3 := Lib.hid (blk_B BG.out G3.out HB.out)
    replace NB := Lib.hid (NB.out.trans BG.out)
    replace KF := Lib.hid (KF.out.trans KG.out)
    replace LB := Lib.hid (Nat.le_trans LB.out BG.out.size)
    clear NN OX BX SL P X Y g9 o9 t9 BG KG OW
    refine tG 8 (.pointer (some ⟨gc, k * 7, none⟩)) (some 39) (GK.grow _) rfl (YieldsIf.toG (Or.inl ⟨by rfl, ?_⟩)) (GK.drop (by simp)) ?_
    ·intro X hX
     clear hX
     go_simp
    try simp only [Act.put, zA, zB, zC]
    refine tG 9 (.pointer (some ⟨gc, k * 7 + 6, none⟩)) (some 40) (GK.grow _) rfl (YieldsIf.toG (Or.inl ⟨by rfl, ?_⟩)) (GK.drop (by simp)) ?_
    ·intro X hX
     clear hX
     go_simp
    try simp only [Act.put, zA, zB, zC]
    refine only_G 10 (by kernel_rfl) rfl (fun X12 hX K' hK' => ?_)
    replace NB := Lib.hid (NB.out.trans (hX.mono LB.out))
    replace KF := Lib.hid (KF.out.trans (keeps_of_below hX))
    replace LB := Lib.hid (Nat.le_trans LB.out hX.size)
    replace OY := Lib.hid (OC1.next OY.out hX)
    replace G3 := Lib.hid (blk_next hX G3.out)
    skip
    clear hX
    have cc := (OY.out.cell HC.out HU.out).1
    have cl := (OY.out.cell HC.out HU.out).2
    have cf := OY.out.row.frozenAt (k * 7 + 6)
    go_simp
    clear cc cl cf
    refine hK'.out _ _ (fun kk hk hS => ?_) ?_
    ·intro px9 hp e
     simp only [List.mem_cons, List.not_mem_nil, or_false] at hp
     rcases hp with rfl | rfl <;> (subst e; exact bfl (by kernel_rfl) hk)
    clear hK' K'
    try simp only [Act.put, zA, zB, zC]
    obtain ⟨o1, -⟩ := OY.out.store HC.out
    have OX := Lib.hid o1
    have CB := Lib.hid ((OY.out.cell HC.out HU.out).2)
    clear o1 OY
    replace G3 := Lib.hid (blk_set_other G3.out (show gc ≠ g3 by have := HB.out; have := HGB.out; omega) (k * 7 + 6) (.slice A9 (c.2.length + 1) c9))
    replace NB := Lib.hid (NB.out.setCell (p := ⟨gc, k * 7 + 6, none⟩) HGB.out (.slice A9 (c.2.length + 1) c9))
    replace KF := Lib.hid (keep_set KF.out gc (k * 7 + 6) (.slice A9 (c.2.length + 1) c9))
    replace LB : Hid (B ≤ (X12.setCell ⟨gc, k * 7 + 6, none⟩ (.slice A9 (c.2.length + 1) c9)).heap.size) := Lib.hid (by simpa using LB.out)
    clear CB
    generalize X12.setCell ⟨gc, k * 7 + 6, none⟩ (.slice A9 (c.2.length + 1) c9) = w8 at *
    refine done_G (by kernel_rfl) (fun X13 hX => ?_) _
    replace NB := Lib.hid (NB.out.trans (hX.mono LB.out))
    replace KF := Lib.hid (KF.out.trans (keeps_of_below hX))
    replace LB := Lib.hid (Nat.le_trans LB.out hX.size)
    replace OX := Lib.hid (OC.next OX.out hX)
    replace G3 := Lib.hid (blk_next hX G3.out)
    clear hX
    go_wp2_with fail
    exact bodyPost_ret (v := .tuple #[]) (by simp [results, Tryz.results37, go_sem]) rfl ⟨⟨_, rfl⟩, KF.out, _, _, below_set_same NB.out HG0.out, G3.out, by rw [putC_hit HC.out HNO.out HIT.out]; exact OX.out⟩
   ·have d1 : decide (c.1 = there) = false := decide_eq_false h1
    have d2 : decide (c.1 = back) = false := decide_eq_false h2
    have MIS : Hid (hitC there back c = false) := Lib.hid (by unfold hitC; rw [d1, d2]; rfl)
    clear h1 h2
    have HDRW := Lib.hid (Below.drew (Below.refl wr.heap.size wr))
    replace NN := Lib.hid (Bgo NN.out HDRW.out)
    replace OX := Lib.hid (OC.next OX.out HDRW.out)
    replace BX := Lib.hid (blk_next HDRW.out BX.out)
    replace G3 := Lib.hid (blk_next HDRW.out G3.out)
    replace P := Lib.hid (blk_next HDRW.out P.out)
    replace X := Lib.hid (blk_next HDRW.out X.out)
    replace Y := Lib.hid (blk_next HDRW.out Y.out)
    clear HDRW
    have HAL : Hid (∀ kx9 : Nat, GK [(3, gc, .cells cur 40), (4, w.heap.size + 1, .cells #[.int .i64 there.x1, .int .i64 there.x2, .int .i64 there.y1, .int .i64 there.y2, .int .i64 there.z1, .int .i64 there.z2] 38), (10, gc, .cells cur 40), (11, w.heap.size + 1 + 1, .cells #[.int .i64 back.x1, .int .i64 back.x2, .int .i64 back.y1, .int .i64 back.y2, .int .i64 back.z1, .int .i64 back.z2] 38)] kx9 wr.drew) := Lib.hid (fun kx9 => fun px9 hp e => by
     simp only [List.mem_cons, List.not_mem_nil, or_false] at hp
     rcases hp with rfl | rfl | rfl | rfl
     ·exact BX.out
     ·exact X.out
     ·exact BX.out
     ·exact Y.out
    )
    refine region_G (S := GK [(3, gc, .cells cur 40), (4, w.heap.size + 1, .cells #[.int .i64 there.x1, .int .i64 there.x2, .int .i64 there.y1, .int .i64 there.y2, .int .i64 there.z1, .int .i64 there.z2] 38), (10, gc, .cells cur 40), (11, w.heap.size + 1 + 1, .cells #[.int .i64 back.x1, .int .i64 back.x2, .int .i64 back.y1, .int .i64 back.y2, .int .i64 back.z1, .int .i64 back.z2] 38)]) (by kernel_rfl) ?_
    refine tG 0 (.pointer (some ⟨gc, k * 7, none⟩)) (some 17) (GK.grow _) rfl (YieldsIf.toG (Or.inl ⟨by rfl, ?_⟩)) (GK.drop (by simp)) ?_
    ·intro X hX
     clear hX
     go_simp
    try simp only [Act.put, zA, zB, zC]
    refine tG 1 (.pointer (some ⟨gc, k * 7, none⟩)) (some 18) (GK.grow _) rfl (YieldsIf.toG (Or.inl ⟨by rfl, ?_⟩)) (GK.drop (by simp)) ?_
    ·intro X hX
     clear hX
     go_simp
    try simp only [Act.put, zA, zB, zC]
    refine tG 2 (.pointer (some ⟨gc, k * 7, none⟩)) (some 19) (GK.grow _) rfl (YieldsIf.toG (Or.inl ⟨by rfl, ?_⟩)) (GK.drop (by simp)) ?_
    ·intro X hX
     clear hX
     go_simp
    try simp only [Act.put, zA, zB, zC]
    refine tG 3 (.agg #[.int .i64 c.1.x1, .int .i64 c.1.x2, .int .i64 c.1.y1, .int .i64 c.1.y2, .int .i64 c.1.z1, .int .i64 c.1.z2]) (some 20) (GK.grow _) rfl (YieldsIf.toG (Or.inl ⟨by rfl, ?_⟩)) (HAL.out 3) ?_
    ·intro X hX
     have hh := hX (3, gc, .cells cur 40) (List.Mem.head _) rfl
     have hh0 := CL.out _ hh 0 _ rfl
     simp only [Nat.add_zero] at hh0
     have hh1 := CL.out _ hh 1 _ rfl
     have hh2 := CL.out _ hh 2 _ rfl
     have hh3 := CL.out _ hh 3 _ rfl
     have hh4 := CL.out _ hh 4 _ rfl
     have hh5 := CL.out _ hh 5 _ rfl
     have hhl := blk_lt hh
     clear hh
     clear hX
     go_simp
    try simp only [Act.put, zA, zB, zC]
    refine tG 4 (.agg #[.int .i64 there.x1, .int .i64 there.x2, .int .i64 there.y1, .int .i64 there.y2, .int .i64 there.z1, .int .i64 there.z2]) (some 21) (GK.grow _) rfl (YieldsIf.toG (Or.inl ⟨by rfl, ?_⟩)) (HAL.out 4) ?_
    ·intro X hX
     have hh := hX (4, w.heap.size + 1, .cells #[.int .i64 there.x1, .int .i64 there.x2, .int .i64 there.y1, .int .i64 there.y2, .int .i64 there.z1, .int .i64 there.z2] 38) (List.Mem.tail _ (List.Mem.head _)) rfl
     have hh0 := blk_cell hh 0 _ rfl
     have hh1 := blk_cell hh 1 _ rfl
     have hh2 := blk_cell hh 2 _ rfl
     have hh3 := blk_cell hh 3 _ rfl
     have hh4 := blk_cell hh 4 _ rfl
     have hh5 := blk_cell hh 5 _ rfl
     have hhl := blk_lt hh
     clear hh
     clear hX
     go_simp
    try simp only [Act.put, zA, zB, zC]
    refine tG 5 (.bool false) (some 22) (GK.grow _) rfl (YieldsIf.toG (Or.inl ⟨by rfl, ?_⟩)) (GK.drop (by simp)) ?_
    ·intro X hX
     clear hX
     go_simp
    try simp only [Act.put, zA, zB, zC]
    refine tG 6 (.bool false) (some 23) (GK.grow _) rfl (YieldsIf.toG (Or.inl ⟨by rfl, ?_⟩)) (GK.drop (by simp)) ?_
    ·intro X hX
     clear hX
     go_simp
    try simp only [Act.put, zA, zB, zC]
    refine tG 7 (.pointer (some ⟨gc, k * 7, none⟩)) (some 24) (GK.grow _) rfl (YieldsIf.toG (Or.inl ⟨by rfl, ?_⟩)) (GK.drop (by simp)) ?_
    ·intro X hX
     clear hX
     go_simp
    try simp only [Act.put, zA, zB, zC]
    refine tG 8 (.pointer (some ⟨gc, k * 7, none⟩)) (some 25) (GK.grow _) rfl (YieldsIf.toG (Or.inl ⟨by rfl, ?_⟩)) (GK.drop (by simp)) ?_
    ·intro X hX
     clear hX
     go_simp
    try simp only [Act.put, zA, zB, zC]
    refine tG 9 (.pointer (some ⟨gc, k * 7, none⟩)) (some 26) (GK.grow _) rfl (YieldsIf.toG (Or.inl ⟨by rfl, ?_⟩)) (GK.drop (by simp)) ?_
    ·intro X hX
     clear hX
     go_simp
    try simp only [Act.put, zA, zB, zC]
    refine tG 10 (.agg #[.int .i64 c.1.x1, .int .i64 c.1.x2, .int .i64 c.1.y1, .int .i64 c.1.y2, .int .i64 c.1.z1, .int .i64 c.1.z2]) (some 27) (GK.grow _) rfl (YieldsIf.toG (Or.inl ⟨by rfl, ?_⟩)) (HAL.out 10) ?_
    ·intro X hX
     have hh := hX (10, gc, .cells cur 40) (List.Mem.tail _ (List.Mem.tail _ (List.Mem.head _))) rfl
     have hh0 := CL.out _ hh 0 _ rfl
     simp only [Nat.add_zero] at hh0
     have hh1 := CL.out _ hh 1 _ rfl
     have hh2 := CL.out _ hh 2 _ rfl
     have hh3 := CL.out _ hh 3 _ rfl
     have hh4 := CL.out _ hh 4 _ rfl
     have hh5 := CL.out _ hh 5 _ rfl
     have hhl := blk_lt hh
     clear hh
     clear hX
     go_simp
    try simp only [Act.put, zA, zB, zC]
    refine tG 11 (.agg #[.int .i64 back.x1, .int .i64 back.x2, .int .i64 back.y1, .int .i64 back.y2, .int .i64 back.z1, .int .i64 back.z2]) (some 28) (GK.grow _) rfl (YieldsIf.toG (Or.inl ⟨by rfl, ?_⟩)) (HAL.out 11) ?_
    ·intro X hX
     have hh := hX (11, w.heap.size + 1 + 1, .cells #[.int .i64 back.x1, .int .i64 back.x2, .int .i64 back.y1, .int .i64 back.y2, .int .i64 back.z1, .int .i64 back.z2] 38) (List.Mem.tail _ (List.Mem.tail _ (List.Mem.tail _ (List.Mem.head _)))) rfl
     have hh0 := blk_cell hh 0 _ rfl
     have hh1 := blk_cell hh 1 _ rfl
     have hh2 := blk_cell hh 2 _ rfl
     have hh3 := blk_cell hh 3 _ rfl
     have hh4 := blk_cell hh 4 _ rfl
     have hh5 := blk_cell hh 5 _ rfl
     have hhl := blk_lt hh
     clear hh
     clear hX
     go_simp
    try simp only [Act.put, zA, zB, zC]
    refine tG 12 (.bool false) (some 29) (GK.grow _) rfl (YieldsIf.toG (Or.inl ⟨by rfl, ?_⟩)) (GK.drop (by simp)) ?_
    ·intro X hX
     clear hX
     go_simp
    try simp only [Act.put, zA, zB, zC]
    refine tG 13 (.bool false) (some 30) (GK.grow _) rfl (YieldsIf.toG (Or.inl ⟨by rfl, ?_⟩)) (GK.drop (by simp)) ?_
    ·intro X hX
     clear hX
     go_simp
    try simp only [Act.put, zA, zB, zC]
    clear HAL
    refine done_G (by kernel_rfl) (fun X14 hX => ?_) _
    replace NN := Lib.hid (Bgo NN.out hX)
    replace OX := Lib.hid (OC.next OX.out hX)
    replace BX := Lib.hid (blk_next hX BX.out)
    replace G3 := Lib.hid (blk_next hX G3.out)
    replace P := Lib.hid (blk_next hX P.out)
    replace X := Lib.hid (blk_next hX X.out)
    replace Y := Lib.hid (blk_next hX Y.out)
    clear hX
    go_wp2_with fail
    go_roundw
    case rel => exact ⟨k + 1, kk, by go_num, fun j c' hj hc' => by
      rcases Nat.lt_or_ge j k with h | h
      ·exact HNO.out j c' h hc'
      ·obtain rfl : j = k := by omega
       rw [HC.out] at hc'; injection hc' with hc'; subst hc'; exact MIS.out, NN, OX, G3, P, X, Y⟩
    case measure => simp [intOf]; omega
  ·obtain rfl : k = cs.length := by omega
   have c_G3_0 := blk_cell G3.out 0 _ rfl
   have f_G3_0 := blk_frozen G3.out 0
   have l_G3 := blk_lt G3.out
   go_upto_region 8 with fail
   clear c_G3_0 f_G3_0 l_G3
   obtain ⟨i0, hi, hz, hs0, hb0⟩ := info_parts infoC
   have HI := Lib.hid (And.intro hi (And.intro hz (And.intro hs0 hb0)))
   clear hi hz hs0 hb0
   have NB := Lib.hid (NN.out.mono HW.out)
   have KF : Hid (KeepsFrom B w wr) := Lib.hid ((keeps_of_below NN.out))
   have LB := Lib.hid (Nat.le_trans HW.out NN.out.size)
   have BB : Hid (Below wr.heap.size wr ((wr.alloc (.cells #[.int .i64 (p.1 : Int), .int .i64 (p.2 : Int)] 43)).alloc (.cells #[.int .i64 there.x1, .int .i64 there.x2, .int .i64 there.y1, .int .i64 there.y2, .int .i64 there.z1, .int .i64 there.z2, .slice (some ⟨wr.heap.size, 0, none⟩) 1 1] 40))) := Lib.hid (Bal (Bal (Below.refl _ _) _) _)
   have OXB := Lib.hid (OX.out.next BB.out)
   have LO := Lib.hid OX.out.lo
   have PU : Hid (OPr wr.heap.size ((wr.alloc (.cells #[.int .i64 (p.1 : Int), .int .i64 (p.2 : Int)] 43)).alloc (.cells #[.int .i64 there.x1, .int .i64 there.x2, .int .i64 there.y1, .int .i64 there.y2, .int .i64 there.z1, .int .i64 there.z2, .slice (some ⟨wr.heap.size, 0, none⟩) 1 1] 40)) (.slice (some ⟨wr.heap.size, 0, none⟩) 1 1) [p]) := Lib.hid (own_of_blk (xs := pr2 p) (blk_alloc (blk_new wr _) _) (Nat.le_refl _) rfl (by omega))
   have SM : Hid (((wr.alloc (.cells #[.int .i64 (p.1 : Int), .int .i64 (p.2 : Int)] 43)).alloc (.cells #[.int .i64 there.x1, .int .i64 there.x2, .int .i64 there.y1, .int .i64 there.y2, .int .i64 there.z1, .int .i64 there.z2, .slice (some ⟨wr.heap.size, 0, none⟩) 1 1] 40)).heap[wr.heap.size + 1]? = some (.cells #[.int .i64 there.x1, .int .i64 there.x2, .int .i64 there.y1, .int .i64 there.y2, .int .i64 there.z1, .int .i64 there.z2, .slice (some ⟨wr.heap.size, 0, none⟩) 1 1] 40)) := Lib.hid (blk_at _ (by simp))
   have G3B := Lib.hid (blk_next BB.out G3.out)
   have LBB : Hid (B ≤ ((wr.alloc (.cells #[.int .i64 (p.1 : Int), .int .i64 (p.2 : Int)] 43)).alloc (.cells #[.int .i64 there.x1, .int .i64 there.x2, .int .i64 there.y1, .int .i64 there.y2, .int .i64 there.z1, .int .i64 there.z2, .slice (some ⟨wr.heap.size, 0, none⟩) 1 1] 40)).heap.size) := Lib.hid (Nat.le_trans LB.out BB.out.size)
   have H63 : Hid (cs.length + 1 ≤ maxLen) := Lib.hid (by have := H28.out; simp [maxLen]; omega)
   have H64 : Hid ((cs.length + 1) * 72 ≤ 140737488355328) := Lib.hid (by have := H28.out; omega)
   have c_G3_0 := blk_cell G3.out 0 _ rfl
   have f_G3_0 := blk_frozen G3.out 0
   have l_G3 := blk_lt G3.out
   have c_P_0 := blk_cell P.out 0 _ rfl
   have f_P_0 := blk_frozen P.out 0
   have c_P_1 := blk_cell P.out 1 _ rfl
   have f_P_1 := blk_frozen P.out 1
   have l_P := blk_lt P.out
   have c_X_0 := blk_cell X.out 0 _ rfl
   have f_X_0 := blk_frozen X.out 0
   have c_X_1 := blk_cell X.out 1 _ rfl
   have f_X_1 := blk_frozen X.out 1
   have c_X_2 := blk_cell X.out 2 _ rfl
   have f_X_2 := blk_frozen X.out 2
   have c_X_3 := blk_cell X.out 3 _ rfl
   have f_X_3 := blk_frozen X.out 3
   have c_X_4 := blk_cell X.out 4 _ rfl
   have f_X_4 := blk_frozen X.out 4
   have c_X_5 := blk_cell X.out 5 _ rfl
   have f_X_5 := blk_frozen X.out 5
   have l_X := blk_lt X.out
   go_wp2_with (at_builtin; refine wpList_append_rd _ rfl _ _ 27 rfl B 40 i0 (.agg #[.int .i64 0, .int .i64 0, .int .i64 0, .int .i64 0, .int .i64 0, .int .i64 0, .slice none 0 0]) 7 72 und_cls HI.out.1 HI.out.2.1 HI.out.2.2.1 HI.out.2.2.2 rfl (by decide) (.slice A0 cs.length c0) _ _ rfl OXB.out.row (some ⟨wr.heap.size + 1, 0, none⟩) 1 1 (cl7 (there, .slice (some ⟨wr.heap.size, 0, none⟩) 1 1)) rfl (Rd.blk SM.out rfl) (cl7_one _ _ _ _) H63.out H64.out LBB.out ?_; intro v9 w9 o9 g9 t9; obtain ⟨A9, c9, hv9, -, -, -⟩ := Rd.of_own o9; subst hv9; have BG := Lib.hid (own_grown OXB.out.row g9 LBB.out); have G9 := Lib.hid (blk_B BG.out G3B.out HB.out); have cc9 := blk_cell G9.out 0 _ rfl; have cf9 := blk_frozen G9.out 0; have cl9 := blk_lt G9.out)
   clear c_G3_0 f_G3_0 l_G3 c_P_0 f_P_0 c_P_1 f_P_1 l_P c_X_0 f_X_0 c_X_1 f_X_1 c_X_2 f_X_2 c_X_3 f_X_3 c_X_4 f_X_4 c_X_5 f_X_5 l_X
   have KG := Lib.hid ((own_keeps OXB.out.row g9).from B)
   have OY : Hid (OC B w9 (.slice A9 (cs.length + 1) c9) (cs ++ [(there, [p])]) (hs ++ [.slice (some ⟨wr.heap.size, 0, none⟩) 1 1])) := Lib.hid (OXB.out.push LO.out PU.out LB.out (by simpa using o9) g9)
   have OZ := Lib.hid (OY.out.low HB.out 0 (.slice A9 (cs.length + 1) c9))
   have NZ := Lib.hid (below_set_both ((NB.out.trans (BB.out.mono LB.out)).trans BG.out) (.slice A9 (cs.length + 1) c9) HG0.out G9.out)
   have GZ := Lib.hid (blk_set G9.out 0 (.slice A9 (cs.length + 1) c9))
   have KZ := Lib.hid (keep_set ((KF.out.trans (keeps_of_below BB.out)).trans KG.out) g3 0 (.slice A9 (cs.length + 1) c9))
   exact bodyPost_end (v := .tuple #[]) (by simp [results, Tryz.results37, go_sem]) rfl ⟨⟨_, rfl⟩, KZ.out, _, _, NZ.out, GZ.out, by rw [putC_none (fun j c hj => HNO.out j c (get_lt hj) hj)]; exact OZ.out⟩
end Go.Proofs.YtfangplfbbgphaaGreatDoor
namespace Go.Proofs.YtfangplfbbgphaaGreatDoor
open Go Go.RowKit
set_option linter.unusedVariables false
set_option maxRecDepth 100000
section
variable {P : Program} {ops : Array Oper} {Q : Exit → Act → World → Prop} {md : Region.Mode}
theorem rows_wide {n : Nat} {row : String} {args : Array Value} {w : World} {R : Value → World → Prop} (h : Rows P row args w R) : RowsIn Fence.wide n P row args w R := fun c cs _ =>
 let ⟨v, w', r, s⟩ := h c cs; ⟨v, w', r, stepsIn_wide.2 s⟩
theorem wide_depth (lp : Nat) : (Fence.wide.inRound lp).depth.isSome = true → 1 ≤ 0 := fun h => by simp [Fence.wide] at h
theorem oper_in (lp : Nat) {o : Oper} {a : Act} {w : World} {K : Act → World → Prop} (hnd : ∀ c, o.op ≠ .defer c) (h : o.wp P a w K Q) : o.wpIn (Fence.wide.inRound lp) 0 P a w K Q := by
 unfold Oper.wp at h
 unfold Oper.wpIn
 refine ⟨fun _ _ => trivial, ?_⟩
 rw [Oper.semAt_plain _ _ _ hnd]
 generalize (execOp a.eval o).run P w = r at *
 cases r with
 | ok x w' =>
  cases x <;> simp only [Oper.upon] at h <;> simp only [Oper.uponIn]
  case value u => exact h
  case skip => exact h
  case defer d => exact h
  case enter f args => exact ⟨wide_depth lp, CallsIn.mono (CallsIn.inRound lp (callsIn_wide.2 h)) fun e w'' he => by cases e <;> exact he⟩
  case row row args => exact ⟨wide_depth lp, RowsIn.mono (F := Fence.wide.inRound lp) (rows_wide (n := 0) h) fun v w'' he => he⟩
 | halt x w' => cases x <;> simp only [Oper.upon] at h <;> simp only [Oper.uponIn] <;> exact h
theorem opAny_in (lp : Nat) (hnd : ∀ (i : Nat) (o : Oper), ops[i]? = some o → ∀ c, o.op ≠ .defer c) (hno : ¬ LetsOut Q) {i : Nat} {a : Act} {w : World} {K K' : Act → World → Prop} (hk : ∀ a w, K a w → K' a w) (h : wpOp P ops Q i K a w) : wpOpIn (Fence.wide.inRound lp) 0 P ops Q i K' a w := by
 unfold wpOp at h
 unfold wpOpIn
 split
 ·rename_i ho; simp only [ho] at h; exact hk _ _ h
 ·rename_i o ho
  simp only [ho] at h
  split
  ·rename_i hw
   simp only [hw, if_true] at h
   rcases h with h | ⟨_, h⟩
   ·exact Oper.wpIn_mono hk (oper_in lp (hnd i o ho) h)
   ·exact absurd h hno
  ·rename_i hw
   simp only [hw] at h
   exact ⟨fun _ _ => trivial, hk _ _ h⟩
theorem any_in (lp : Nat) (hnd : ∀ (i : Nat) (o : Oper), ops[i]? = some o → ∀ c, o.op ≠ .defer c) (hno : ¬ LetsOut Q) : ∀ (f : Nat) (done : Array Bool) (a : Act) (w : World), wpAny P md ops Q f done a w → wpAnyIn (Fence.wide.inRound lp) 0 P md ops Q f done a w
 | 0, _, _, _, h => h
 | f + 1, _, _, _, h => ⟨h.1, fun i hi => opAny_in lp hnd hno (fun a' w' h' => any_in lp hnd hno f _ a' w' h') (h.2 i hi)⟩
theorem region_G_round {S : Nat → World → Prop} {lp id : Nat} {a : Act} {w : World} (hnd : noDefer ops = true) (hm : P.follows .mixedOrders = true) (hno : ¬ LetsOut Q) (h : wpAnyG P .any ops Q S ops.size (Array.replicate ops.size false) a w.drew) : (Code.region id ops true).wpIn (Fence.wide.inRound lp) 0 P Q a w :=
 wpIn_region_any hm (any_in lp (fun _ _ ho => noDefer_spec hnd ho) hno _ _ _ _ (wpAny_of_G _ _ _ _ h))
end
end Go.Proofs.YtfangplfbbgphaaGreatDoor
