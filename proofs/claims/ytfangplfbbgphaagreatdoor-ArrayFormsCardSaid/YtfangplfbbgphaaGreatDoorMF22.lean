/- Several texts in one. -/
import Derived.Shelf.LaysM
import Derived.Shelf.Strconv.Clone
import Derived.Test.YtfangplfbbgphaaGreatDoorProg
import Derived.Test.YtfangplfbbgphaaGreatDoorMF12
import Derived.Test.YtfangplfbbgphaaGreatDoorMF19
import Derived.Test.YtfangplfbbgphaaGreatDoorMF20
namespace Go.Proofs.YtfangplfbbgphaaGreatDoor
open Go.ChangeShapes Go.WideShapes Go.ChangeAt Go.RowKit
set_option linter.unusedVariables false
set_option linter.unusedSimpArgs false
attribute [local go_sem ↓] Go.wp_at_zero Go.wp_at_succ
attribute [local go_sem ↓] eqVe
set_option maxRecDepth 100000 in
set_option maxHeartbeats 8000000 in
theorem sameC_calls {B1 B2 : Nat} {A1 A2 : Option Addr} {c1 c2 : Nat} {cs : List Cl} {hs js : List Value} {w : World} (h1 : OC B1 w (.slice A1 cs.length c1) cs hs) (h2 : OC B2 w (.slice A2 cs.length c2) cs js) (k1 : cs.length ≤ c1) (k1' : c1 ≤ 9223372036854775807) (k2 : cs.length ≤ c2) :
  Calls Tryz.prog 22 #[.slice A1 cs.length c1, .slice A2 cs.length c2] w fun e w' => e = .returned (.bool true) ∧ Below w.heap.size w w' := by
 have NN := Lib.hid (Below.refl w.heap.size w)
 have O1 := Lib.hid h1
 have O2 := Lib.hid h2
 clear h1 h2
 go_enter Tryz.func22, Tryz.ntmps22
 go_wp2_with fail
 go_loopw [5] (fun i wr => ∃ k : Nat, k ≤ cs.length ∧ i = .int .i64 k ∧ Hid (Below w.heap.size w wr)) (fun i _ => cs.length - (intOf i).toNat)
 case atStart => exact ⟨0, by omega, rfl, NN⟩
 case round =>
  clear NN
  obtain ⟨k, hk, rfl, NN⟩ := hrel
  by_cases hlt : k < cs.length
  ·obtain ⟨cl, hcv⟩ := get_some hlt
   obtain ⟨u1, hu1⟩ := get_some (show k < hs.length by rw [O1.out.len]; exact hlt)
   obtain ⟨gc, cur1, hA1, -, hcu1, hcl1⟩ := O1.out.cells (by omega)
   subst hA1
   obtain ⟨Au, v1, hu0, hun1, huc1, hru1⟩ := Rd.of_own (O1.out.inn k cl u1 hcv hu1)
   subst hu0
   have CS1 := Lib.hid (fun X (hX : X.heap[gc]? = some (.cells cur1 40)) j y hy => hcl1 X hX k cl _ hcv hu1 j y hy)
   have CU1 := Lib.hid (blk_next NN.out hcu1)
   have RU1 := Lib.hid (hru1.next NN.out)
   have N1 := Lib.hid hun1
   have M1 := Lib.hid huc1
   clear hu1 hcu1 hcl1 hun1 huc1 hru1
   obtain ⟨u2, hu2⟩ := get_some (show k < js.length by rw [O2.out.len]; exact hlt)
   obtain ⟨gd, cur2, hA2, -, hcu2, hcl2⟩ := O2.out.cells (by omega)
   subst hA2
   obtain ⟨Ad, v2, hu0, hun2, huc2, hru2⟩ := Rd.of_own (O2.out.inn k cl u2 hcv hu2)
   subst hu0
   have CS2 := Lib.hid (fun X (hX : X.heap[gd]? = some (.cells cur2 40)) j y hy => hcl2 X hX k cl _ hcv hu2 j y hy)
   have CU2 := Lib.hid (blk_next NN.out hcu2)
   have RU2 := Lib.hid (hru2.next NN.out)
   have N2 := Lib.hid hun2
   have M2 := Lib.hid huc2
   clear hu2 hcu2 hcl2 hun2 huc2 hru2
   clear hcv
   have kk : k + 1 ≤ cs.length := hlt
   have j1 : (k : Int) < (cs.length : Int) := by omega
   have RX1 := RU1
   have RX2 := RU2
   go_upto_region 6 with fail
   have RY1 := Lib.hid (RX1.out.next (Below.drew (Below.refl wr.heap.size wr)))
   have RY2 := Lib.hid (RX2.out.next (Below.drew (Below.refl wr.heap.size wr)))
   have HDRW := Lib.hid (Below.drew (Below.refl wr.heap.size wr))
   replace NN := Lib.hid (Bgo NN.out HDRW.out)
   replace CU1 := Lib.hid (blk_next HDRW.out CU1.out)
   replace CU2 := Lib.hid (blk_next HDRW.out CU2.out)
   replace RX1 := Lib.hid (Rd.next HDRW.out RX1.out)
   replace RX2 := Lib.hid (Rd.next HDRW.out RX2.out)
   clear HDRW
   have HAL : Hid (∀ kx9 : Nat, GB [(4, gc, .cells cur1 40), (9, gd, .cells cur2 40), (16, gc, .cells cur1 40), (21, gd, .cells cur2 40)] wr.drew kx9 wr.drew) := Lib.hid (fun kx9 => ⟨fun px9 hp e => by
    simp only [List.mem_cons, List.not_mem_nil, or_false] at hp
    rcases hp with rfl | rfl | rfl | rfl
    ·exact CU1.out
    ·exact CU2.out
    ·exact CU1.out
    ·exact CU2.out
   , Below.refl _ _⟩)
   refine region_G (S := GB [(4, gc, .cells cur1 40), (9, gd, .cells cur2 40), (16, gc, .cells cur1 40), (21, gd, .cells cur2 40)] wr.drew) (by kernel_rfl) ?_
   refine tG 0 (.slice (some ⟨gc, 0, none⟩) cs.length c1) (some 17) GB.grow rfl (YieldsIf.toG (Or.inl ⟨by rfl, ?_⟩)) (HAL.out 0) ?_
   ·intro X hX
    clear hX
    go_simp
   try simp only [Act.put, zA, zB, zC]
   refine tG 1 (.int .i64 (k : Int)) (some 18) GB.grow rfl (YieldsIf.toG (Or.inl ⟨by rfl, ?_⟩)) (HAL.out 1) ?_
   ·intro X hX
    clear hX
    go_simp
   try simp only [Act.put, zA, zB, zC]
   refine tG 2 (.pointer (some ⟨gc, k * 7, none⟩)) (some 19) GB.grow rfl (YieldsIf.toG (Or.inl ⟨by rfl, ?_⟩)) (HAL.out 2) ?_
   ·intro X hX
    clear hX
    go_simp
   try simp only [Act.put, zA, zB, zC]
   refine tG 3 (.pointer (some ⟨gc, k * 7, none⟩)) (some 20) GB.grow rfl (YieldsIf.toG (Or.inl ⟨by rfl, ?_⟩)) (HAL.out 3) ?_
   ·intro X hX
    clear hX
    go_simp
   try simp only [Act.put, zA, zB, zC]
   refine tG 4 (.agg #[.int .i64 cl.1.x1, .int .i64 cl.1.x2, .int .i64 cl.1.y1, .int .i64 cl.1.y2, .int .i64 cl.1.z1, .int .i64 cl.1.z2]) (some 21) GB.grow rfl (YieldsIf.toG (Or.inl ⟨by rfl, ?_⟩)) (HAL.out 4) ?_
   ·intro X hX
    have hh := hX.1 (4, gc, .cells cur1 40) (List.Mem.head _) rfl
    have hh0 := CS1.out _ hh 0 _ rfl
    simp only [Nat.add_zero] at hh0
    have hh1 := CS1.out _ hh 1 _ rfl
    have hh2 := CS1.out _ hh 2 _ rfl
    have hh3 := CS1.out _ hh 3 _ rfl
    have hh4 := CS1.out _ hh 4 _ rfl
    have hh5 := CS1.out _ hh 5 _ rfl
    have hhl := blk_lt hh
    clear hh
    clear hX
    go_simp
   try simp only [Act.put, zA, zB, zC]
   refine tG 5 (.slice (some ⟨gd, 0, none⟩) cs.length c2) (some 22) GB.grow rfl (YieldsIf.toG (Or.inl ⟨by rfl, ?_⟩)) (HAL.out 5) ?_
   ·intro X hX
    clear hX
    go_simp
   try simp only [Act.put, zA, zB, zC]
   refine tG 6 (.int .i64 (k : Int)) (some 23) GB.grow rfl (YieldsIf.toG (Or.inl ⟨by rfl, ?_⟩)) (HAL.out 6) ?_
   ·intro X hX
    clear hX
    go_simp
   try simp only [Act.put, zA, zB, zC]
   refine tG 7 (.pointer (some ⟨gd, k * 7, none⟩)) (some 24) GB.grow rfl (YieldsIf.toG (Or.inl ⟨by rfl, ?_⟩)) (HAL.out 7) ?_
   ·intro X hX
    clear hX
    go_simp
   try simp only [Act.put, zA, zB, zC]
   refine tG 8 (.pointer (some ⟨gd, k * 7, none⟩)) (some 25) GB.grow rfl (YieldsIf.toG (Or.inl ⟨by rfl, ?_⟩)) (HAL.out 8) ?_
   ·intro X hX
    clear hX
    go_simp
   try simp only [Act.put, zA, zB, zC]
   refine tG 9 (.agg #[.int .i64 cl.1.x1, .int .i64 cl.1.x2, .int .i64 cl.1.y1, .int .i64 cl.1.y2, .int .i64 cl.1.z1, .int .i64 cl.1.z2]) (some 26) GB.grow rfl (YieldsIf.toG (Or.inl ⟨by rfl, ?_⟩)) (HAL.out 9) ?_
   ·intro X hX
    have hh := hX.1 (9, gd, .cells cur2 40) (List.Mem.tail _ (List.Mem.head _)) rfl
    have hh0 := CS2.out _ hh 0 _ rfl
    simp only [Nat.add_zero] at hh0
    have hh1 := CS2.out _ hh 1 _ rfl
    have hh2 := CS2.out _ hh 2 _ rfl
    have hh3 := CS2.out _ hh 3 _ rfl
    have hh4 := CS2.out _ hh 4 _ rfl
    have hh5 := CS2.out _ hh 5 _ rfl
    have hhl := blk_lt hh
    clear hh
    clear hX
    go_simp
   try simp only [Act.put, zA, zB, zC]
   refine tG 10 (.bool false) (some 27) GB.grow rfl (YieldsIf.toG (Or.inl ⟨by rfl, ?_⟩)) (HAL.out 10) ?_
   ·intro X hX
    clear hX
    go_simp
   try simp only [Act.put, zA, zB, zC]
   refine tG 11 (.bool false) (some 28) GB.grow rfl (YieldsIf.toG (Or.inl ⟨by rfl, ?_⟩)) (HAL.out 11) ?_
   ·intro X hX
    clear hX
    go_simp
   try simp only [Act.put, zA, zB, zC]
   refine tG 12 (.slice (some ⟨gc, 0, none⟩) cs.length c1) (some 29) GB.grow rfl (YieldsIf.toG (Or.inl ⟨by rfl, ?_⟩)) (HAL.out 12) ?_
   ·intro X hX
    clear hX
    go_simp
   try simp only [Act.put, zA, zB, zC]
   refine tG 13 (.int .i64 (k : Int)) (some 30) GB.grow rfl (YieldsIf.toG (Or.inl ⟨by rfl, ?_⟩)) (HAL.out 13) ?_
   ·intro X hX
    clear hX
    go_simp
   try simp only [Act.put, zA, zB, zC]
   refine tG 14 (.pointer (some ⟨gc, k * 7, none⟩)) (some 31) GB.grow rfl (YieldsIf.toG (Or.inl ⟨by rfl, ?_⟩)) (HAL.out 14) ?_
   ·intro X hX
    clear hX
    go_simp
   try simp only [Act.put, zA, zB, zC]
   refine tG 15 (.pointer (some ⟨gc, k * 7 + 6, none⟩)) (some 32) GB.grow rfl (YieldsIf.toG (Or.inl ⟨by rfl, ?_⟩)) (HAL.out 15) ?_
   ·intro X hX
    clear hX
    go_simp
   try simp only [Act.put, zA, zB, zC]
   refine tG 16 (.slice Au cl.2.length v1) (some 33) GB.grow rfl (YieldsIf.toG (Or.inl ⟨by rfl, ?_⟩)) (HAL.out 16) ?_
   ·intro X hX
    have hh := hX.1 (16, gc, .cells cur1 40) (List.Mem.tail _ (List.Mem.tail _ (List.Mem.head _))) rfl
    have hh0 := CS1.out _ hh 6 _ rfl
    have hhl := blk_lt hh
    clear hh
    clear hX
    go_simp
   try simp only [Act.put, zA, zB, zC]
   refine tG 17 (.slice (some ⟨gd, 0, none⟩) cs.length c2) (some 34) GB.grow rfl (YieldsIf.toG (Or.inl ⟨by rfl, ?_⟩)) (HAL.out 17) ?_
   ·intro X hX
    clear hX
    go_simp
   try simp only [Act.put, zA, zB, zC]
   refine tG 18 (.int .i64 (k : Int)) (some 35) GB.grow rfl (YieldsIf.toG (Or.inl ⟨by rfl, ?_⟩)) (HAL.out 18) ?_
   ·intro X hX
    clear hX
    go_simp
   try simp only [Act.put, zA, zB, zC]
   refine tG 19 (.pointer (some ⟨gd, k * 7, none⟩)) (some 36) GB.grow rfl (YieldsIf.toG (Or.inl ⟨by rfl, ?_⟩)) (HAL.out 19) ?_
   ·intro X hX
    clear hX
    go_simp
   try simp only [Act.put, zA, zB, zC]
   refine tG 20 (.pointer (some ⟨gd, k * 7 + 6, none⟩)) (some 37) GB.grow rfl (YieldsIf.toG (Or.inl ⟨by rfl, ?_⟩)) (HAL.out 20) ?_
   ·intro X hX
    clear hX
    go_simp
   try simp only [Act.put, zA, zB, zC]
   refine tG 21 (.slice Ad cl.2.length v2) (some 38) GB.grow rfl (YieldsIf.toG (Or.inl ⟨by rfl, ?_⟩)) (HAL.out 21) ?_
   ·intro X hX
    have hh := hX.1 (21, gd, .cells cur2 40) (List.Mem.tail _ (List.Mem.tail _ (List.Mem.tail _ (List.Mem.head _)))) rfl
    have hh0 := CS2.out _ hh 6 _ rfl
    have hhl := blk_lt hh
    clear hh
    clear hX
    go_simp
   try simp only [Act.put, zA, zB, zC]
   have CFn : ∀ (args : Array Value) (W : World), Sem.run Tryz.prog (callFunc 32 args) W = .ok (.enter 32 args) W := fun _ _ => by kernel_rfl
   refine tG 22 (.bool true) (some 39) GB.grow rfl (yieldsG_call 32 #[.slice Au cl.2.length v1, .slice Ad cl.2.length v2] (by rfl) ?_ (fun X hS => sameP_calls Au Ad v1 v2 cl.2 X (RY1.out.next hS.2) (RY2.out.next hS.2) N1.out M1.out N2.out M2.out)) (HAL.out 22) ?_
   ·intro X hX
    clear hX
    go_simp
   clear CFn
   try simp only [Act.put, zA, zB, zC]
   refine tG 23 (.bool false) (some 40) GB.grow rfl (YieldsIf.toG (Or.inl ⟨by rfl, ?_⟩)) (HAL.out 23) ?_
   ·intro X hX
    clear hX
    go_simp
   try simp only [Act.put, zA, zB, zC]
   refine tG 24 (.bool false) (some 41) GB.grow rfl (YieldsIf.toG (Or.inl ⟨by rfl, ?_⟩)) (HAL.out 24) ?_
   ·intro X hX
    clear hX
    go_simp
   try simp only [Act.put, zA, zB, zC]
   clear HAL
   refine done_G (by kernel_rfl) (fun X1 hX => ?_) _
   replace NN := Lib.hid (Bgo NN.out hX)
   replace CU1 := Lib.hid (blk_next hX CU1.out)
   replace CU2 := Lib.hid (blk_next hX CU2.out)
   replace RX1 := Lib.hid (Rd.next hX RX1.out)
   replace RX2 := Lib.hid (Rd.next hX RX2.out)
   clear hX
   go_wp2_with fail
   go_roundw
   case rel => exact ⟨k + 1, kk, by go_num, NN⟩
   case measure => simp [intOf]; omega
  ·obtain rfl : k = cs.length := by omega
   go_wp2_with fail
   go_ret
   exact ⟨rfl, NN.out⟩
end Go.Proofs.YtfangplfbbgphaaGreatDoor
namespace Go.Proofs.YtfangplfbbgphaaGreatDoor
open Go.ChangeShapes Go.WideShapes Go.ChangeAt Go.RowKit
set_option linter.unusedVariables false
attribute [local go_sem ↓] Go.wp_at_zero Go.wp_at_succ
theorem PR.none {l : List UInt8} (h : ∀ n d, VF n d → textL n d ≠ l) : PR l (0, 0, 12) := .inr ⟨rfl, h⟩
theorem PR.some {l : List UInt8} {n d : Int} (h1 : errF n d = 0) (h2 : txR n d = l) : PR l (n, d, 0) := by
 refine .inl ⟨rfl, errF_ok h1, ?_⟩
 unfold txR at h2
 rwa [if_pos h1] at h2
theorem VF.itoaN {n d : Int} (v : VF n d) : Lib.parseIntB 64 (Lib.itoa n) = .ok n := parseI_itoa (by have := v.n1; omega) (by have := v.n2; omega)
theorem VF.itoaD {n d : Int} (v : VF n d) : Lib.parseIntB 64 (Lib.itoa d) = .ok d := parseI_itoa (by have := v.d1; omega) (by have := v.d2; omega)
theorem VF.tx {n d : Int} (v : VF n d) : txR n d = textL n d := by unfold txR; rw [if_pos v.err]
theorem s_len (s : ByteArray) : s.data.toList.length = s.size := by rw [Array.length_toList]; rfl
set_option maxRecDepth 100000 in
set_option maxHeartbeats 8000000 in
theorem parseP_calls (s : ByteArray) (w : World) (g : GL w) :
  Calls Tryz.prog 83 #[.string s] w fun e w' => ∃ r, e = .returned (Rv r) ∧ PR s.data.toList r ∧ Below w.heap.size w w' := by
 have G := Lib.hid g
 clear g
 have SL := s_len s
 by_cases big : 40 < s.size
 ·have NO := Lib.hid (PR.none (l := s.data.toList) (fun n d v h => by have := text_len v; rw [h] at this; omega))
  clear SL
  have bg : decide ((40 : Int) < (s.size : Int)) = true := decide_eq_true (by omega)
  go_enter Tryz.func83, Tryz.ntmps83
  go_wp2_with fail
  have K := Lib.hid (blk_new w (.cells #[.int .i64 0, .int .i64 0] 36))
  have NN := Lib.hid (Bal (Below.refl w.heap.size w) (.cells #[.int .i64 0, .int .i64 0] 36))
  refine bodyPost_ret (v := Rv (0, 0, 12)) (by simp [results, Tryz.results83, go_sem]) rfl ⟨_, rfl, NO.out, by first | exact NN.out | exact Bset1 (Bset1 NN.out (Nat.le_refl _) _ _) (Nat.le_refl _) _ _⟩
 have bg : decide ((40 : Int) < (s.size : Int)) = false := decide_eq_false (by omega)
 have CC := Lib.hid (fun W (h : GL W) => cutS_calls s W (by omega) h)
 have CT : Hid (∀ n d, VF n d → textL n d = s.data.toList → Lib.cut s.data.toList [47] = (Lib.itoa n, if d = 1 then [] else Lib.itoa d, !decide (d = 1))) := Lib.hid (fun n d v h => by rw [← h, cut_text])
 have LL : (Lib.cut s.data.toList [47]).1.length ≤ 40 ∧ (Lib.cut s.data.toList [47]).2.1.length ≤ 40 := by
  unfold Lib.cut; split <;> simp <;> omega
 obtain ⟨⟨la, lb, f⟩, hc⟩ : ∃ r, Lib.cut s.data.toList [47] = r := ⟨_, rfl⟩
 rw [hc] at CC CT LL
 clear hc
 obtain ⟨ll1, ll2⟩ := LL
 have P1 := Lib.hid (fun W (h : GL W) => parse_calls ⟨la.toArray⟩ W (by have := s_len ⟨la.toArray⟩; simp at this ll1; omega) h)
 have P2 := Lib.hid (fun W (h : GL W) => parse_calls ⟨lb.toArray⟩ W (by have := s_len ⟨lb.toArray⟩; simp at this ll2; omega) h)
 rw [show (⟨la.toArray⟩ : ByteArray).data.toList = la by simp] at P1
 rw [show (⟨lb.toArray⟩ : ByteArray).data.toList = lb by simp] at P2
 clear big SL ll1 ll2
 go_enter Tryz.func83, Tryz.ntmps83
 go_wp2_with fail
 have K := Lib.hid (blk_new w (.cells #[.int .i64 0, .int .i64 0] 36))
 have NN := Lib.hid (Bal (Below.refl w.heap.size w) (.cells #[.int .i64 0, .int .i64 0] 36))
 replace G := Lib.hid (G.out.next NN.out)
 generalize w.alloc (.cells #[.int .i64 0, .int .i64 0] 36) = W0 at *
 refine (CC.out _ G.out).mono ?_
 rintro e w1 ⟨rfl, hb⟩
 replace NN := Lib.hid (Bgo NN.out hb)
 replace K := Lib.hid (blk_next hb K.out)
 replace G := Lib.hid (G.out.next hb)
 clear hb
 clear CC
 go_wp2_with fail
 refine (P1.out _ G.out).mono ?_
 clear P1
 rintro e w2 (⟨num, pn, n1, n2, rfl, hb⟩ | ⟨pn, v2, t2, p2, rfl, hb⟩)
 rotate_left
 ·have NO := Lib.hid (PR.none (l := s.data.toList) (fun n d v h => by have := CT.out n d v h; simp only [Prod.mk.injEq] at this; exact pn n (by rw [this.1]; exact v.itoaN)))
  clear pn CT
  replace NN := Lib.hid (Bgo NN.out hb)
  replace K := Lib.hid (blk_next hb K.out)
  replace G := Lib.hid (G.out.next hb)
  clear hb
  have z0 := blk_cell K.out 0 _ rfl
  have z1 := blk_cell K.out 1 _ rfl
  have f0 := blk_frozen K.out 0
  have f1 := blk_frozen K.out 1
  have zl := blk_lt K.out
  go_wp2_with fail
  have e1 := blk_cell (blk_set (blk_set K.out 0 (.int .i64 0)) 1 (.int .i64 0)) 0 _ rfl
  have e2 := blk_cell (blk_set (blk_set K.out 0 (.int .i64 0)) 1 (.int .i64 0)) 1 _ rfl
  refine bodyPost_ret (v := Rv (0, 0, 12)) (by simp [results, Tryz.results83, go_sem, e1, e2]) rfl ⟨_, rfl, NO.out, Bset1 (Bset1 NN.out (Nat.le_refl _) _ _) (Nat.le_refl _) _ _⟩
 replace NN := Lib.hid (Bgo NN.out hb)
 replace K := Lib.hid (blk_next hb K.out)
 replace G := Lib.hid (G.out.next hb)
 clear hb
 have PN := Lib.hid pn
 clear pn
 cases f with
 | true =>
  go_wp2_with fail
  refine (P2.out _ G.out).mono ?_
  clear P2
  rintro e w3 (⟨den, pd, d1, d2, rfl, hb⟩ | ⟨pd, v3, t3, p3, rfl, hb⟩)
  rotate_left
  ·have NO := Lib.hid (PR.none (l := s.data.toList) (fun n d v h => by
    have := CT.out n d v h; simp only [Prod.mk.injEq] at this
    have hd : ¬ d = 1 := by have := this.2.2; simpa using this
    rw [if_neg hd] at this
    exact pd d (by rw [this.2.1]; exact v.itoaD)))
   clear pd CT
   replace NN := Lib.hid (Bgo NN.out hb)
   replace K := Lib.hid (blk_next hb K.out)
   replace G := Lib.hid (G.out.next hb)
   clear hb
   have z0 := blk_cell K.out 0 _ rfl
   have z1 := blk_cell K.out 1 _ rfl
   have f0 := blk_frozen K.out 0
   have f1 := blk_frozen K.out 1
   have zl := blk_lt K.out
   go_wp2_with fail
   have e1 := blk_cell (blk_set (blk_set K.out 0 (.int .i64 0)) 1 (.int .i64 0)) 0 _ rfl
   have e2 := blk_cell (blk_set (blk_set K.out 0 (.int .i64 0)) 1 (.int .i64 0)) 1 _ rfl
   refine bodyPost_ret (v := Rv (0, 0, 12)) (by simp [results, Tryz.results83, go_sem, e1, e2]) rfl ⟨_, rfl, NO.out, Bset1 (Bset1 NN.out (Nat.le_refl _) _ _) (Nat.le_refl _) _ _⟩
  ·have UN : Hid (∀ n d, VF n d → textL n d = s.data.toList → errF num den = 0 ∧ txR num den = s.data.toList) := Lib.hid (fun n d v h => by
    have := CT.out n d v h; simp only [Prod.mk.injEq] at this
    have hd : ¬ d = 1 := by have := this.2.2; simpa using this
    rw [if_neg hd] at this
    have en := PN.out
    rw [this.1, v.itoaN] at en
    rw [this.2.1, v.itoaD] at pd
    cases en; cases pd
    exact ⟨v.err, by rw [v.tx]; exact h⟩)
   clear pd CT PN
   replace NN := Lib.hid (Bgo NN.out hb)
   replace K := Lib.hid (blk_next hb K.out)
   replace G := Lib.hid (G.out.next hb)
   clear hb
   have TC := Lib.hid (fun W (h : GL W) => text_calls num den W h.gt)
   have OKR := Lib.hid (fun (h1 : errF num den = 0) (h2 : txR num den = s.data.toList) => PR.some h1 h2)
   obtain ⟨tx, htx⟩ : ∃ z, txR num den = z := ⟨_, rfl⟩
   obtain ⟨er, her⟩ : ∃ z, errF num den = z := ⟨_, rfl⟩
   rw [htx, her] at TC OKR UN
   clear htx her
   have HB : Hid (Below w3.heap.size w3 (w3.alloc (.cells #[.int .i64 num, .int .i64 den] 36))) := Lib.hid (Bal (Below.refl _ _) _)
   have A := Lib.hid (blk_new w3 (.cells #[.int .i64 num, .int .i64 den] 36))
   replace NN := Lib.hid (Bgo NN.out HB.out)
   replace K := Lib.hid (blk_next HB.out K.out)
   replace G := Lib.hid (G.out.next HB.out)
   clear HB
   go_wp2_with fail
   generalize w3.alloc (.cells #[.int .i64 num, .int .i64 den] 36) = W4 at *
   generalize w3.heap.size = ga at *
   refine (TC.out _ G.out).mono ?_
   rintro e w5 ⟨rfl, hb⟩
   replace A := Lib.hid (blk_next hb A.out)
   replace NN := Lib.hid (Bgo NN.out hb)
   replace K := Lib.hid (blk_next hb K.out)
   replace G := Lib.hid (G.out.next hb)
   clear hb
   clear TC
   have z0 := blk_cell K.out 0 _ rfl
   have z1 := blk_cell K.out 1 _ rfl
   have f0 := blk_frozen K.out 0
   have f1 := blk_frozen K.out 1
   have zl := blk_lt K.out
   have a0 := blk_cell A.out 0 _ rfl
   have a1 := blk_cell A.out 1 _ rfl
   have al := blk_lt A.out
   by_cases ez : er = 0
   rotate_left
   ·have ez' : (er != 0) = true := by rw [bne_iff_ne]; exact ez
    have NO := Lib.hid (PR.none (l := s.data.toList) (fun n d v h => ez (UN.out n d v h).1))
    clear UN OKR ez
    go_wp2_with fail
    have e1 := blk_cell (blk_set (blk_set K.out 0 (.int .i64 0)) 1 (.int .i64 0)) 0 _ rfl
    have e2 := blk_cell (blk_set (blk_set K.out 0 (.int .i64 0)) 1 (.int .i64 0)) 1 _ rfl
    refine bodyPost_ret (v := Rv (0, 0, 12)) (by simp [results, Tryz.results83, go_sem, e1, e2]) rfl ⟨_, rfl, NO.out, Bset1 (Bset1 NN.out (Nat.le_refl _) _ _) (Nat.le_refl _) _ _⟩
   subst ez
   by_cases et : tx = s.data.toList
   rotate_left
   ·have et' : (tx == s.toList) = false := by rw [ByteArray.toList_eq, beq_eq_false_iff_ne]; exact et
    have NO := Lib.hid (PR.none (l := s.data.toList) (fun n d v h => et (UN.out n d v h).2))
    clear UN OKR et
    go_wp2_with fail
    have e1 := blk_cell (blk_set (blk_set K.out 0 (.int .i64 0)) 1 (.int .i64 0)) 0 _ rfl
    have e2 := blk_cell (blk_set (blk_set K.out 0 (.int .i64 0)) 1 (.int .i64 0)) 1 _ rfl
    refine bodyPost_ret (v := Rv (0, 0, 12)) (by simp [results, Tryz.results83, go_sem, e1, e2]) rfl ⟨_, rfl, NO.out, Bset1 (Bset1 NN.out (Nat.le_refl _) _ _) (Nat.le_refl _) _ _⟩
   have R := Lib.hid (OKR.out rfl et)
   have et' : (tx == s.toList) = true := by rw [ByteArray.toList_eq, et]; exact beq_self_eq_true _
   clear UN OKR et
   go_wp2_with fail
   have e1 := blk_cell (blk_set (blk_set K.out 0 (.int .i64 num)) 1 (.int .i64 den)) 0 _ rfl
   have e2 := blk_cell (blk_set (blk_set K.out 0 (.int .i64 num)) 1 (.int .i64 den)) 1 _ rfl
   refine bodyPost_ret (v := Rv (num, den, 0)) (by simp [results, Tryz.results83, go_sem, e1, e2]) rfl ⟨_, rfl, R.out, Bset1 (Bset1 NN.out (Nat.le_refl _) _ _) (Nat.le_refl _) _ _⟩
 | false =>
  have UN : Hid (∀ n d, VF n d → textL n d = s.data.toList → errF num 1 = 0 ∧ txR num 1 = s.data.toList) := Lib.hid (fun n d v h => by
    have := CT.out n d v h; simp only [Prod.mk.injEq] at this
    have hd : d = 1 := by have := this.2.2; simpa using this
    subst hd
    have en := PN.out
    rw [this.1, v.itoaN] at en
    cases en
    exact ⟨v.err, by rw [v.tx]; exact h⟩)
  clear CT PN P2
  have TC := Lib.hid (fun W (h : GL W) => text_calls num 1 W h.gt)
  have OKR := Lib.hid (fun (h1 : errF num 1 = 0) (h2 : txR num 1 = s.data.toList) => PR.some h1 h2)
  obtain ⟨tx, htx⟩ : ∃ z, txR num 1 = z := ⟨_, rfl⟩
  obtain ⟨er, her⟩ : ∃ z, errF num 1 = z := ⟨_, rfl⟩
  rw [htx, her] at TC OKR UN
  clear htx her
  have HB : Hid (Below w2.heap.size w2 (w2.alloc (.cells #[.int .i64 num, .int .i64 1] 36))) := Lib.hid (Bal (Below.refl _ _) _)
  have A := Lib.hid (blk_new w2 (.cells #[.int .i64 num, .int .i64 1] 36))
  replace NN := Lib.hid (Bgo NN.out HB.out)
  replace K := Lib.hid (blk_next HB.out K.out)
  replace G := Lib.hid (G.out.next HB.out)
  clear HB
  go_wp2_with fail
  generalize w2.alloc (.cells #[.int .i64 num, .int .i64 1] 36) = W4 at *
  generalize w2.heap.size = ga at *
  refine (TC.out _ G.out).mono ?_
  rintro e w5 ⟨rfl, hb⟩
  replace A := Lib.hid (blk_next hb A.out)
  replace NN := Lib.hid (Bgo NN.out hb)
  replace K := Lib.hid (blk_next hb K.out)
  replace G := Lib.hid (G.out.next hb)
  clear hb
  clear TC
  have z0 := blk_cell K.out 0 _ rfl
  have z1 := blk_cell K.out 1 _ rfl
  have f0 := blk_frozen K.out 0
  have f1 := blk_frozen K.out 1
  have zl := blk_lt K.out
  have a0 := blk_cell A.out 0 _ rfl
  have a1 := blk_cell A.out 1 _ rfl
  have al := blk_lt A.out
  by_cases ez : er = 0
  rotate_left
  ·have ez' : (er != 0) = true := by rw [bne_iff_ne]; exact ez
   have NO := Lib.hid (PR.none (l := s.data.toList) (fun n d v h => ez (UN.out n d v h).1))
   clear UN OKR ez
   go_wp2_with fail
   have e1 := blk_cell (blk_set (blk_set K.out 0 (.int .i64 0)) 1 (.int .i64 0)) 0 _ rfl
   have e2 := blk_cell (blk_set (blk_set K.out 0 (.int .i64 0)) 1 (.int .i64 0)) 1 _ rfl
   refine bodyPost_ret (v := Rv (0, 0, 12)) (by simp [results, Tryz.results83, go_sem, e1, e2]) rfl ⟨_, rfl, NO.out, Bset1 (Bset1 NN.out (Nat.le_refl _) _ _) (Nat.le_refl _) _ _⟩
  subst ez
  by_cases et : tx = s.data.toList
  rotate_left
  ·have et' : (tx == s.toList) = false := by rw [ByteArray.toList_eq, beq_eq_false_iff_ne]; exact et
   have NO := Lib.hid (PR.none (l := s.data.toList) (fun n d v h => et (UN.out n d v h).2))
   clear UN OKR et
   go_wp2_with fail
   have e1 := blk_cell (blk_set (blk_set K.out 0 (.int .i64 0)) 1 (.int .i64 0)) 0 _ rfl
   have e2 := blk_cell (blk_set (blk_set K.out 0 (.int .i64 0)) 1 (.int .i64 0)) 1 _ rfl
   refine bodyPost_ret (v := Rv (0, 0, 12)) (by simp [results, Tryz.results83, go_sem, e1, e2]) rfl ⟨_, rfl, NO.out, Bset1 (Bset1 NN.out (Nat.le_refl _) _ _) (Nat.le_refl _) _ _⟩
  have R := Lib.hid (OKR.out rfl et)
  have et' : (tx == s.toList) = true := by rw [ByteArray.toList_eq, et]; exact beq_self_eq_true _
  clear UN OKR et
  go_wp2_with fail
  have e1 := blk_cell (blk_set (blk_set K.out 0 (.int .i64 num)) 1 (.int .i64 1)) 0 _ rfl
  have e2 := blk_cell (blk_set (blk_set K.out 0 (.int .i64 num)) 1 (.int .i64 1)) 1 _ rfl
  refine bodyPost_ret (v := Rv (num, 1, 0)) (by simp [results, Tryz.results83, go_sem, e1, e2]) rfl ⟨_, rfl, R.out, Bset1 (Bset1 NN.out (Nat.le_refl _) _ _) (Nat.le_refl _) _ _⟩
end Go.Proofs.YtfangplfbbgphaaGreatDoor
namespace Go.Proofs.YtfangplfbbgphaaGreatDoor
set_option linter.unusedVariables false
set_option linter.unusedSimpArgs false
def prC (l : List UInt8) : Int × Int × Int := match Lib.cut l [47] with
 | (a, b, f) => match Lib.parseIntB 64 a with
  | .ok n => if f then (match Lib.parseIntB 64 b with
    | .ok d => if okF n d && (textL n d == l) then (n, d, 0) else (0, 0, 12)
    | _ => (0, 0, 12))
   else if okF n 1 && (textL n 1 == l) then (n, 1, 0) else (0, 0, 12)
  | _ => (0, 0, 12)
theorem prC_text {n d : Int} (v : VF n d) : prC (textL n d) = (n, d, 0) := by
 unfold prC
 rw [cut_text]
 simp only [v.itoaN]
 by_cases h : d = 1
 ·subst h
  simp [VF_okF v]
 ·simp only [h, decide_false, Bool.not_false, if_true, if_false]
  simp only [v.itoaD, VF_okF v, beq_self_eq_true, Bool.and_self, if_true]
theorem prC_form (l : List UInt8) : (∃ n d, VF n d ∧ textL n d = l ∧ prC l = (n, d, 0)) ∨ prC l = (0, 0, 12) := by
 have K : ∀ n d, (okF n d && (textL n d == l)) = true → VF n d ∧ textL n d = l := fun n d h => by
  rw [Bool.and_eq_true, beq_iff_eq] at h
  exact ⟨okF_VF h.1, h.2⟩
 unfold prC
 split
 split
 ·rename_i n hn
  split
  ·split
   ·rename_i d hd
    split
    ·rename_i h; exact .inl ⟨n, d, (K n d h).1, (K n d h).2, rfl⟩
    ·exact .inr rfl
   ·exact .inr rfl
  ·split
   ·rename_i h; exact .inl ⟨n, 1, (K n 1 h).1, (K n 1 h).2, rfl⟩
   ·exact .inr rfl
 ·exact .inr rfl
theorem prC_PR (l : List UInt8) : PR l (prC l) := by
 rcases prC_form l with ⟨n, d, v, h, e⟩ | e
 ·rw [e]; exact .inl ⟨rfl, v, h⟩
 ·rw [e]
  refine .inr ⟨rfl, fun n d v h => ?_⟩
  subst h
  rw [prC_text v] at e
  cases e
theorem PR.eq {l : List UInt8} {r : Int × Int × Int} (h : PR l r) : r = prC l := h.unique (prC_PR l)
theorem prC_err (l : List UInt8) : (prC l).2.2 = 0 ∨ prC l = (0, 0, 12) := by
 rcases prC_form l with ⟨n, d, _, _, e⟩ | e
 ·left; rw [e]
 ·exact .inr e
theorem prC_nil : prC [] = (0, 0, 12) := by kernel_rfl
def lineS (l : List UInt8) : Option St :=
 let c := Lib.cut l [32]
 let d := Lib.cut c.2.1 [32]
 let x := prC d.1
 let y := prC d.2.1
 if x.2.2 = 0 ∧ y.2.2 = 0 then
  if valS ⟨⟨c.1.toArray⟩, x.1, x.2.1, y.1, y.2.1⟩ then some ⟨⟨c.1.toArray⟩, x.1, x.2.1, y.1, y.2.1⟩ else none
 else none
def parT : Nat → List St → List UInt8 → Option (List St)
 | 0, _, _ => none
 | f + 1, acc, l => if l.length = 0 then some acc else
  let c := Lib.cut l [10]
  if c.2.2 then (if acc.length = 8 then none else match lineS c.1 with
   | some s => parT f (acc ++ [s]) c.2.1
   | none => none)
  else none
def parA (l : List UInt8) : Option (List St) := parT (l.length + 1) [] l
def parE (l : List UInt8) : Int := if (parA l).isSome then 0 else 12
def parL (l : List UInt8) : List St := (parA l).getD []
theorem cut1_none {l : List UInt8} {c : UInt8} (h : ∀ x ∈ l, x ≠ c) : Lib.cut l [c] = (l, [], false) := by
 unfold Lib.cut
 rw [Lib.index_one, byte_none l c h, if_neg (by decide)]
theorem cut1_at {l r : List UInt8} {c : UInt8} (h : ∀ x ∈ l, x ≠ c) : Lib.cut (l ++ c :: r) [c] = (l, r, true) := by
 unfold Lib.cut
 rw [Lib.index_one, byte_at l c r h, if_pos (by omega)]
 simp [List.drop_append]
theorem cut1_len (l : List UInt8) (c : UInt8) : (Lib.cut l [c]).1.length ≤ l.length ∧ (Lib.cut l [c]).2.1.length ≤ l.length ∧ ((Lib.cut l [c]).2.2 = true → (Lib.cut l [c]).2.1.length < l.length) := by
 cases l with
 | nil => unfold Lib.cut; rw [Lib.index_one]; simp [Lib.indexByte]
 | cons x l =>
  unfold Lib.cut
  split
  ·simp; omega
  ·simp
end Go.Proofs.YtfangplfbbgphaaGreatDoor
namespace Go.Proofs
open Go.Shelf
def Tryz.laysM316_ren : Go.Shelf.Ren := ⟨fun | 316 => 118 | n => n, fun | 9 => 9 | 3 => 3 | 4 => 4 | 37 => 108 | 0 => 0 | 127 => 140 | 5 => 5 | n => n, fun | n => n⟩
theorem Tryz.laysM316 : Go.Proofs.LaysM.n316 Tryz.prog Tryz.laysM316_ren := {
 mixed := by kernel_rfl
 f316 := Tryz.func118.trans (congrArg some (by kernel_rfl))
 t0 := Tryz.underlying0
 a0 := Tryz.isAgg0
 z0 := Tryz.sizeOf0
 v0 := Tryz.zeroValue0
 t3 := Tryz.underlying3
 a3 := Tryz.isAgg3
 z3 := Tryz.sizeOf3
 v3 := Tryz.zeroValue3
 t4 := Tryz.underlying4
 a4 := Tryz.isAgg4
 z4 := Tryz.sizeOf4
 v4 := Tryz.zeroValue4
 t9 := Tryz.underlying9
 a9 := Tryz.isAgg9
 z9 := Tryz.sizeOf9
 v9 := Tryz.zeroValue9
 t37 := Tryz.underlying108
 a37 := Tryz.isAgg108
 z37 := Tryz.sizeOf108
 v37 := Tryz.zeroValue108
 t127 := Tryz.underlying140
 a127 := Tryz.isAgg140
 z127 := Tryz.sizeOf140
 v127 := Tryz.zeroValue140
 t5 := Tryz.underlying5
 a5 := Tryz.isAgg5
 z5 := Tryz.sizeOf5
 v5 := Tryz.zeroValue5
 i0 := by kernel_rfl
 i3 := by kernel_rfl
 i4 := by kernel_rfl
 i5 := by kernel_rfl
 i9 := by kernel_rfl
 i37 := by kernel_rfl
 i127 := by kernel_rfl }
open Go.RowKit in
theorem Tryz.stringslite_Clone (s : ByteArray) (w : World) (hlim : s.size ≤ 281474976710656) :
  Calls Tryz.prog 118 #[.string s] w fun e w' => e = .returned (.string s) ∧ Below w.heap.size w w' := Any.stringslite_Clone Tryz.laysM316 s w hlim
end Go.Proofs
namespace Go.Proofs.YtfangplfbbgphaaGreatDoor
open Go.ChangeShapes Go.WideShapes Go.ChangeAt Go.RowKit
set_option linter.unusedVariables false
set_option linter.unusedSimpArgs false
attribute [local go_sem ↓] Go.wp_at_zero Go.wp_at_succ
theorem cutG_calls (l : List UInt8) (c : UInt8) (w : World) (hs : l.length ≤ 100000) (g : GL w) :
  Calls Tryz.prog 56 #[Str l, .string ⟨#[c]⟩] w fun e w' => e = .returned (.tuple #[Str (Lib.cut l [c]).1, Str (Lib.cut l [c]).2.1, .bool (Lib.cut l [c]).2.2]) ∧ Below w.heap.size w w' := by
 obtain ⟨m, hm⟩ := g.max
 have h1 := (Tryz.strings_Cut ⟨l.toArray⟩ ⟨#[c]⟩ m w (by have := s_len ⟨l.toArray⟩; simp at this; omega) hm)
 exact h1.mono fun e w' ⟨h, k, hw⟩ => ⟨h, by rw [hw]; exact below_drewN (Below.refl _ _) k⟩
theorem fparse_calls (l : List UInt8) (w : World) (g : GL w) : Calls Tryz.prog 83 #[Str l] w fun e w' => e = .returned (Rv (prC l)) ∧ Below w.heap.size w w' := by
 have h1 := parseP_calls ⟨l.toArray⟩ w g
 refine h1.mono ?_
 rintro e w' ⟨r, rfl, hr, hb⟩
 have h2 := hr.eq
 rw [show (⟨l.toArray⟩ : ByteArray).data.toList = l by simp] at h2
 rw [h2]
 exact ⟨rfl, hb⟩
theorem sclone_calls (s : ByteArray) (w : World) (hs : s.size ≤ 100000) : Calls Tryz.prog 84 #[.string s] w fun e w' => e = .returned (.string s) ∧ Below w.heap.size w w' := by
 have C := fun W => Tryz.stringslite_Clone s W (by omega)
 go_enter Tryz.func84, Tryz.ntmps84
 go_wp2_with fail
 refine (C _).mono ?_
 rintro e w' ⟨rfl, hb⟩
 go_wp2_with fail
 go_ret
 exact ⟨rfl, hb⟩
theorem lineS_eq (l : List UInt8) : lineS l = if (prC (Lib.cut (Lib.cut l [32]).2.1 [32]).1).2.2 = 0 ∧ (prC (Lib.cut (Lib.cut l [32]).2.1 [32]).2.1).2.2 = 0 then
  if valS ⟨⟨(Lib.cut l [32]).1.toArray⟩, (prC (Lib.cut (Lib.cut l [32]).2.1 [32]).1).1, (prC (Lib.cut (Lib.cut l [32]).2.1 [32]).1).2.1, (prC (Lib.cut (Lib.cut l [32]).2.1 [32]).2.1).1, (prC (Lib.cut (Lib.cut l [32]).2.1 [32]).2.1).2.1⟩ then some ⟨⟨(Lib.cut l [32]).1.toArray⟩, (prC (Lib.cut (Lib.cut l [32]).2.1 [32]).1).1, (prC (Lib.cut (Lib.cut l [32]).2.1 [32]).1).2.1, (prC (Lib.cut (Lib.cut l [32]).2.1 [32]).2.1).1, (prC (Lib.cut (Lib.cut l [32]).2.1 [32]).2.1).2.1⟩ else none
 else none := rfl
theorem ret_site {x : St} {b b' : Bool} (h : b = b') : Ending.returned (.tuple #[Sv x, .bool b]) = .returned (.tuple #[Sv x, .bool b']) := by rw [h]
set_option maxRecDepth 100000 in
set_option maxHeartbeats 8000000 in
theorem aparse_calls (l : List UInt8) (w : World) (g : GL w) (hs : l.length ≤ 100000) : Calls Tryz.prog 57 #[Str l] w fun e w' => ∃ x : St, e = .returned (.tuple #[Sv x, .bool (lineS l).isSome]) ∧ (∀ s, lineS l = some s → x = s) ∧ Below w.heap.size w w' := by
 have NN := Lib.hid (Below.refl w.heap.size w)
 have GG := Lib.hid g
 clear g
 have C1 := Lib.hid (fun W (h : GL W) => cutG_calls l 32 W hs h)
 have LS := Lib.hid (lineS_eq l)
 have L1 := (cut1_len l 32)
 obtain ⟨⟨nm, rs, f1⟩, hc⟩ : ∃ r, Lib.cut l [32] = r := ⟨_, rfl⟩
 rw [hc] at C1 LS L1
 simp only at C1 LS L1
 clear hc
 have C2 := Lib.hid (fun W (h : GL W) => cutG_calls rs 32 W (Nat.le_trans L1.2.1 hs) h)
 have NS : Hid ((⟨nm.toArray⟩ : ByteArray).size ≤ 100000) := Lib.hid (by have := s_len ⟨nm.toArray⟩; simp at this; omega)
 obtain ⟨⟨xs, ys, f2⟩, hc⟩ : ∃ r, Lib.cut rs [32] = r := ⟨_, rfl⟩
 rw [hc] at C2 LS
 simp only at C2 LS
 clear hc L1 hs
 have P1 := Lib.hid (fun W (h : GL W) => fparse_calls xs W h)
 have P2 := Lib.hid (fun W (h : GL W) => fparse_calls ys W h)
 have E1 := Lib.hid (prC_err xs)
 have E2 := Lib.hid (prC_err ys)
 have SC := Lib.hid (fun W => sclone_calls ⟨nm.toArray⟩ W NS.out)
 generalize prC xs = px at *
 generalize prC ys = py at *
 generalize lineS l = R at *
 obtain ⟨x1, x2, x3⟩ := px
 obtain ⟨y1, y2, y3⟩ := py
 have E3 := E1.out
 have E4 := E2.out
 clear E1 E2
 simp only [Prod.mk.injEq] at E3 E4 LS
 rcases E3 with e3 | ⟨rfl, rfl, rfl⟩
 rotate_left
 ·replace LS : Hid (R = none) := Lib.hid (by rw [LS.out, if_neg (fun h => absurd h.1 (by decide))])
  clear E4
  go_enter Tryz.func57, Tryz.ntmps57
  go_wp2_with fail
  have S5 : Hid ((w.alloc (.cells #[.string ⟨#[]⟩, .int .i64 0, .int .i64 0, .int .i64 0, .int .i64 0] 69)).heap[w.heap.size]? = some (.cells #[.string ⟨#[]⟩, .int .i64 0, .int .i64 0, .int .i64 0, .int .i64 0] 69)) := Lib.hid (blk_new w _)
  replace NN : Hid (Below w.heap.size w (w.alloc (.cells #[.string ⟨#[]⟩, .int .i64 0, .int .i64 0, .int .i64 0, .int .i64 0] 69))) := Lib.hid (Bal NN.out _)
  generalize (w.alloc (.cells #[.string ⟨#[]⟩, .int .i64 0, .int .i64 0, .int .i64 0, .int .i64 0] 69)) = W1 at *
  refine (C1.out _ (GG.out.next NN.out)).mono ?_
  rintro e w2 ⟨rfl, hb⟩
  replace NN := Lib.hid (Bgo NN.out hb)
  replace S5 := Lib.hid (blk_next hb S5.out)
  clear hb
  go_wp2_with fail
  refine (C2.out _ (GG.out.next NN.out)).mono ?_
  rintro e w3 ⟨rfl, hb⟩
  replace NN := Lib.hid (Bgo NN.out hb)
  replace S5 := Lib.hid (blk_next hb S5.out)
  clear hb
  go_wp2_with fail
  refine (P1.out _ (GG.out.next NN.out)).mono ?_
  rintro e w4 ⟨rfl, hb⟩
  replace NN := Lib.hid (Bgo NN.out hb)
  replace S5 := Lib.hid (blk_next hb S5.out)
  clear hb
  have HB := Lib.hid (show Below w4.heap.size w4 (w4.alloc (.cells #[.int .i64 0, .int .i64 0] 36)) from (Bal (Below.refl _ _) _))
  have X2 : Hid ((w4.alloc (.cells #[.int .i64 0, .int .i64 0] 36)).heap[w4.heap.size]? = some (.cells #[.int .i64 0, .int .i64 0] 36)) := Lib.hid (blk_new w4 _)
  have LT_X2 : Hid (w.heap.size < w4.heap.size ∧ w.heap.size ≤ w4.heap.size) := Lib.hid ⟨blk_lt S5.out, NN.out.size⟩
  replace NN := Lib.hid (Bgo NN.out HB.out)
  replace S5 := Lib.hid (blk_next HB.out S5.out)
  clear HB
  have c_S5_0 := blk_cell S5.out 0 _ rfl
  have f_S5_0 := blk_frozen S5.out 0
  have c_S5_1 := blk_cell S5.out 1 _ rfl
  have f_S5_1 := blk_frozen S5.out 1
  have c_S5_2 := blk_cell S5.out 2 _ rfl
  have f_S5_2 := blk_frozen S5.out 2
  have c_S5_3 := blk_cell S5.out 3 _ rfl
  have f_S5_3 := blk_frozen S5.out 3
  have c_S5_4 := blk_cell S5.out 4 _ rfl
  have f_S5_4 := blk_frozen S5.out 4
  have l_S5 := blk_lt S5.out
  go_wp2_with fail
  clear c_S5_0 f_S5_0 c_S5_1 f_S5_1 c_S5_2 f_S5_2 c_S5_3 f_S5_3 c_S5_4 f_S5_4 l_S5
  generalize (w4.alloc (.cells #[.int .i64 0, .int .i64 0] 36)) = W5 at *
  generalize w4.heap.size = gX at *
  have e0 := blk_cell (blk_set (blk_set (blk_set (blk_set (blk_set (S5.out) 0 (.string ⟨#[]⟩)) 1 (.int .i64 0)) 2 (.int .i64 0)) 3 (.int .i64 0)) 4 (.int .i64 0)) 0 _ rfl
  have e1 := blk_cell (blk_set (blk_set (blk_set (blk_set (blk_set (S5.out) 0 (.string ⟨#[]⟩)) 1 (.int .i64 0)) 2 (.int .i64 0)) 3 (.int .i64 0)) 4 (.int .i64 0)) 1 _ rfl
  have e2 := blk_cell (blk_set (blk_set (blk_set (blk_set (blk_set (S5.out) 0 (.string ⟨#[]⟩)) 1 (.int .i64 0)) 2 (.int .i64 0)) 3 (.int .i64 0)) 4 (.int .i64 0)) 2 _ rfl
  have e3 := blk_cell (blk_set (blk_set (blk_set (blk_set (blk_set (S5.out) 0 (.string ⟨#[]⟩)) 1 (.int .i64 0)) 2 (.int .i64 0)) 3 (.int .i64 0)) 4 (.int .i64 0)) 3 _ rfl
  have e4 := blk_cell (blk_set (blk_set (blk_set (blk_set (blk_set (S5.out) 0 (.string ⟨#[]⟩)) 1 (.int .i64 0)) 2 (.int .i64 0)) 3 (.int .i64 0)) 4 (.int .i64 0)) 4 _ rfl
  exact bodyPost_ret (v := (.tuple #[Sv ⟨⟨#[]⟩, 0, 0, 0, 0⟩, .bool false])) (by simp [results, Tryz.results57, go_sem, e0, e1, e2, e3, e4]) rfl ⟨⟨⟨#[]⟩, 0, 0, 0, 0⟩, ret_site (by rw [LS.out]; rfl), fun s h => (by rw [LS.out] at h; cases h), Bset1 (Bset1 (Bset1 (Bset1 (Bset1 (NN.out) (by omega) _ _) (by omega) _ _) (by omega) _ _) (by omega) _ _) (by omega) _ _⟩
 subst e3
 rcases E4 with e4 | ⟨rfl, rfl, rfl⟩
 rotate_left
 ·replace LS : Hid (R = none) := Lib.hid (by rw [LS.out, if_neg (fun h => absurd h.2 (by decide))])
  go_enter Tryz.func57, Tryz.ntmps57
  go_wp2_with fail
  have S5 : Hid ((w.alloc (.cells #[.string ⟨#[]⟩, .int .i64 0, .int .i64 0, .int .i64 0, .int .i64 0] 69)).heap[w.heap.size]? = some (.cells #[.string ⟨#[]⟩, .int .i64 0, .int .i64 0, .int .i64 0, .int .i64 0] 69)) := Lib.hid (blk_new w _)
  replace NN : Hid (Below w.heap.size w (w.alloc (.cells #[.string ⟨#[]⟩, .int .i64 0, .int .i64 0, .int .i64 0, .int .i64 0] 69))) := Lib.hid (Bal NN.out _)
  generalize (w.alloc (.cells #[.string ⟨#[]⟩, .int .i64 0, .int .i64 0, .int .i64 0, .int .i64 0] 69)) = W6 at *
  refine (C1.out _ (GG.out.next NN.out)).mono ?_
  rintro e w7 ⟨rfl, hb⟩
  replace NN := Lib.hid (Bgo NN.out hb)
  replace S5 := Lib.hid (blk_next hb S5.out)
  clear hb
  go_wp2_with fail
  refine (C2.out _ (GG.out.next NN.out)).mono ?_
  rintro e w8 ⟨rfl, hb⟩
  replace NN := Lib.hid (Bgo NN.out hb)
  replace S5 := Lib.hid (blk_next hb S5.out)
  clear hb
  go_wp2_with fail
  refine (P1.out _ (GG.out.next NN.out)).mono ?_
  rintro e w9 ⟨rfl, hb⟩
  replace NN := Lib.hid (Bgo NN.out hb)
  replace S5 := Lib.hid (blk_next hb S5.out)
  clear hb
  have HB := Lib.hid (show Below w9.heap.size w9 (w9.alloc (.cells #[.int .i64 x1, .int .i64 x2] 36)) from (Bal (Below.refl _ _) _))
  have X2 : Hid ((w9.alloc (.cells #[.int .i64 x1, .int .i64 x2] 36)).heap[w9.heap.size]? = some (.cells #[.int .i64 x1, .int .i64 x2] 36)) := Lib.hid (blk_new w9 _)
  have LT_X2 : Hid (w.heap.size < w9.heap.size ∧ w.heap.size ≤ w9.heap.size) := Lib.hid ⟨blk_lt S5.out, NN.out.size⟩
  replace NN := Lib.hid (Bgo NN.out HB.out)
  replace S5 := Lib.hid (blk_next HB.out S5.out)
  clear HB
  go_wp2_with fail
  generalize (w9.alloc (.cells #[.int .i64 x1, .int .i64 x2] 36)) = W10 at *
  generalize w9.heap.size = gX at *
  refine (P2.out _ (GG.out.next NN.out)).mono ?_
  rintro e w11 ⟨rfl, hb⟩
  replace NN := Lib.hid (Bgo NN.out hb)
  replace S5 := Lib.hid (blk_next hb S5.out)
  replace X2 := Lib.hid (blk_next hb X2.out)
  clear hb
  have HB := Lib.hid (show Below w11.heap.size w11 (w11.alloc (.cells #[.int .i64 0, .int .i64 0] 36)) from (Bal (Below.refl _ _) _))
  have Y2 : Hid ((w11.alloc (.cells #[.int .i64 0, .int .i64 0] 36)).heap[w11.heap.size]? = some (.cells #[.int .i64 0, .int .i64 0] 36)) := Lib.hid (blk_new w11 _)
  have LT_Y2 : Hid (w.heap.size < w11.heap.size ∧ gX < w11.heap.size ∧ w.heap.size ≤ w11.heap.size) := Lib.hid ⟨blk_lt S5.out, blk_lt X2.out, NN.out.size⟩
  replace NN := Lib.hid (Bgo NN.out HB.out)
  replace S5 := Lib.hid (blk_next HB.out S5.out)
  replace X2 := Lib.hid (blk_next HB.out X2.out)
  clear HB
  have c_S5_0 := blk_cell S5.out 0 _ rfl
  have f_S5_0 := blk_frozen S5.out 0
  have c_S5_1 := blk_cell S5.out 1 _ rfl
  have f_S5_1 := blk_frozen S5.out 1
  have c_S5_2 := blk_cell S5.out 2 _ rfl
  have f_S5_2 := blk_frozen S5.out 2
  have c_S5_3 := blk_cell S5.out 3 _ rfl
  have f_S5_3 := blk_frozen S5.out 3
  have c_S5_4 := blk_cell S5.out 4 _ rfl
  have f_S5_4 := blk_frozen S5.out 4
  have l_S5 := blk_lt S5.out
  go_wp2_with fail
  clear c_S5_0 f_S5_0 c_S5_1 f_S5_1 c_S5_2 f_S5_2 c_S5_3 f_S5_3 c_S5_4 f_S5_4 l_S5
  generalize (w11.alloc (.cells #[.int .i64 0, .int .i64 0] 36)) = W12 at *
  generalize w11.heap.size = gY at *
  have e0 := blk_cell (blk_set (blk_set (blk_set (blk_set (blk_set (S5.out) 0 (.string ⟨#[]⟩)) 1 (.int .i64 0)) 2 (.int .i64 0)) 3 (.int .i64 0)) 4 (.int .i64 0)) 0 _ rfl
  have e1 := blk_cell (blk_set (blk_set (blk_set (blk_set (blk_set (S5.out) 0 (.string ⟨#[]⟩)) 1 (.int .i64 0)) 2 (.int .i64 0)) 3 (.int .i64 0)) 4 (.int .i64 0)) 1 _ rfl
  have e2 := blk_cell (blk_set (blk_set (blk_set (blk_set (blk_set (S5.out) 0 (.string ⟨#[]⟩)) 1 (.int .i64 0)) 2 (.int .i64 0)) 3 (.int .i64 0)) 4 (.int .i64 0)) 2 _ rfl
  have e3 := blk_cell (blk_set (blk_set (blk_set (blk_set (blk_set (S5.out) 0 (.string ⟨#[]⟩)) 1 (.int .i64 0)) 2 (.int .i64 0)) 3 (.int .i64 0)) 4 (.int .i64 0)) 3 _ rfl
  have e4 := blk_cell (blk_set (blk_set (blk_set (blk_set (blk_set (S5.out) 0 (.string ⟨#[]⟩)) 1 (.int .i64 0)) 2 (.int .i64 0)) 3 (.int .i64 0)) 4 (.int .i64 0)) 4 _ rfl
  exact bodyPost_ret (v := (.tuple #[Sv ⟨⟨#[]⟩, 0, 0, 0, 0⟩, .bool false])) (by simp [results, Tryz.results57, go_sem, e0, e1, e2, e3, e4]) rfl ⟨⟨⟨#[]⟩, 0, 0, 0, 0⟩, ret_site (by rw [LS.out]; rfl), fun s h => (by rw [LS.out] at h; cases h), Bset1 (Bset1 (Bset1 (Bset1 (Bset1 (NN.out) (by omega) _ _) (by omega) _ _) (by omega) _ _) (by omega) _ _) (by omega) _ _⟩
 subst e4
 replace LS := Lib.hid (LS.out.trans (if_pos ⟨rfl, rfl⟩))
 obtain ⟨st, hst⟩ : ∃ st : St, st = ⟨⟨nm.toArray⟩, x1, x2, y1, y2⟩ := ⟨_, rfl⟩
 have VC := Lib.hid (fun W => valid_calls ⟨⟨nm.toArray⟩, x1, x2, y1, y2⟩ W (by have := NS.out; show (⟨nm.toArray⟩ : ByteArray).size ≤ _; omega))
 go_enter Tryz.func57, Tryz.ntmps57
 go_wp2_with fail
 have S5 : Hid ((w.alloc (.cells #[.string ⟨#[]⟩, .int .i64 0, .int .i64 0, .int .i64 0, .int .i64 0] 69)).heap[w.heap.size]? = some (.cells #[.string ⟨#[]⟩, .int .i64 0, .int .i64 0, .int .i64 0, .int .i64 0] 69)) := Lib.hid (blk_new w _)
 replace NN : Hid (Below w.heap.size w (w.alloc (.cells #[.string ⟨#[]⟩, .int .i64 0, .int .i64 0, .int .i64 0, .int .i64 0] 69))) := Lib.hid (Bal NN.out _)
 generalize (w.alloc (.cells #[.string ⟨#[]⟩, .int .i64 0, .int .i64 0, .int .i64 0, .int .i64 0] 69)) = W13 at *
 refine (C1.out _ (GG.out.next NN.out)).mono ?_
 rintro e w14 ⟨rfl, hb⟩
 replace NN := Lib.hid (Bgo NN.out hb)
 replace S5 := Lib.hid (blk_next hb S5.out)
 clear hb
 go_wp2_with fail
 refine (C2.out _ (GG.out.next NN.out)).mono ?_
 rintro e w15 ⟨rfl, hb⟩
 replace NN := Lib.hid (Bgo NN.out hb)
 replace S5 := Lib.hid (blk_next hb S5.out)
 clear hb
 go_wp2_with fail
 refine (P1.out _ (GG.out.next NN.out)).mono ?_
 rintro e w16 ⟨rfl, hb⟩
 replace NN := Lib.hid (Bgo NN.out hb)
 replace S5 := Lib.hid (blk_next hb S5.out)
 clear hb
 have HB := Lib.hid (show Below w16.heap.size w16 (w16.alloc (.cells #[.int .i64 x1, .int .i64 x2] 36)) from (Bal (Below.refl _ _) _))
 have X2 : Hid ((w16.alloc (.cells #[.int .i64 x1, .int .i64 x2] 36)).heap[w16.heap.size]? = some (.cells #[.int .i64 x1, .int .i64 x2] 36)) := Lib.hid (blk_new w16 _)
 have LT_X2 : Hid (w.heap.size < w16.heap.size ∧ w.heap.size ≤ w16.heap.size) := Lib.hid ⟨blk_lt S5.out, NN.out.size⟩
 replace NN := Lib.hid (Bgo NN.out HB.out)
 replace S5 := Lib.hid (blk_next HB.out S5.out)
 clear HB
 go_wp2_with fail
 generalize (w16.alloc (.cells #[.int .i64 x1, .int .i64 x2] 36)) = W17 at *
 generalize w16.heap.size = gX at *
 refine (P2.out _ (GG.out.next NN.out)).mono ?_
 rintro e w18 ⟨rfl, hb⟩
 replace NN := Lib.hid (Bgo NN.out hb)
 replace S5 := Lib.hid (blk_next hb S5.out)
 replace X2 := Lib.hid (blk_next hb X2.out)
 clear hb
 have HB := Lib.hid (show Below w18.heap.size w18 (w18.alloc (.cells #[.int .i64 y1, .int .i64 y2] 36)) from (Bal (Below.refl _ _) _))
 have Y2 : Hid ((w18.alloc (.cells #[.int .i64 y1, .int .i64 y2] 36)).heap[w18.heap.size]? = some (.cells #[.int .i64 y1, .int .i64 y2] 36)) := Lib.hid (blk_new w18 _)
 have LT_Y2 : Hid (w.heap.size < w18.heap.size ∧ gX < w18.heap.size ∧ w.heap.size ≤ w18.heap.size) := Lib.hid ⟨blk_lt S5.out, blk_lt X2.out, NN.out.size⟩
 replace NN := Lib.hid (Bgo NN.out HB.out)
 replace S5 := Lib.hid (blk_next HB.out S5.out)
 replace X2 := Lib.hid (blk_next HB.out X2.out)
 clear HB
 go_upto_region 9 with fail
 generalize (w18.alloc (.cells #[.int .i64 y1, .int .i64 y2] 36)) = W19 at *
 generalize w18.heap.size = gY at *
 have HDRW := Lib.hid (Below.drew (Below.refl W19.heap.size W19))
 replace NN := Lib.hid (Bgo NN.out HDRW.out)
 replace S5 := Lib.hid (blk_next HDRW.out S5.out)
 replace X2 := Lib.hid (blk_next HDRW.out X2.out)
 replace Y2 := Lib.hid (blk_next HDRW.out Y2.out)
 clear HDRW
 have HAL : Hid (∀ kx9 : Nat, GK [(2, gX, .cells #[.int .i64 x1, .int .i64 x2] 36), (3, gY, .cells #[.int .i64 y1, .int .i64 y2] 36)] kx9 W19.drew) := Lib.hid (fun kx9 => fun px9 hp e => by
  simp only [List.mem_cons, List.not_mem_nil, or_false] at hp
  rcases hp with rfl | rfl
  ·exact X2.out
  ·exact Y2.out
 )
 refine region_G (S := GK [(2, gX, .cells #[.int .i64 x1, .int .i64 x2] 36), (3, gY, .cells #[.int .i64 y1, .int .i64 y2] 36)]) (by kernel_rfl) ?_
 refine tG 0 (.string ⟨nm.toArray⟩) (some 42) (GK.grow _) rfl (YieldsIf.toG (Or.inl ⟨by rfl, ?_⟩)) (GK.drop (by simp)) ?_
 ·intro X hX
  clear hX
  go_simp
 try simp only [Act.put, zA, zB, zC]
 have CFn : ∀ (args : Array Value) (W : World), Sem.run Tryz.prog (callFunc 84 args) W = .ok (.enter 84 args) W := fun _ _ => by kernel_rfl
 refine tG 1 (.string ⟨nm.toArray⟩) (some 43) (GK.grow _) rfl (yieldsG_call 84 #[.string ⟨nm.toArray⟩] (by rfl) ?_ (fun X hS => SC.out X)) (GK.drop (by simp)) ?_
 ·intro X hX
  clear hX
  go_simp
 clear CFn
 try simp only [Act.put, zA, zB, zC]
 refine tG 2 (.agg #[.int .i64 x1, .int .i64 x2]) (some 44) (GK.grow _) rfl (YieldsIf.toG (Or.inl ⟨by rfl, ?_⟩)) (HAL.out 2) ?_
 ·intro X hX
  have hh := hX (2, gX, .cells #[.int .i64 x1, .int .i64 x2] 36) (List.Mem.head _) rfl
  have hh0 := blk_cell hh 0 _ rfl
  have hh1 := blk_cell hh 1 _ rfl
  have hhl := blk_lt hh
  clear hh
  clear hX
  go_simp
 try simp only [Act.put, zA, zB, zC]
 refine tG 3 (.agg #[.int .i64 y1, .int .i64 y2]) (some 45) (GK.grow _) rfl (YieldsIf.toG (Or.inl ⟨by rfl, ?_⟩)) (HAL.out 3) ?_
 ·intro X hX
  have hh := hX (3, gY, .cells #[.int .i64 y1, .int .i64 y2] 36) (List.Mem.tail _ (List.Mem.head _)) rfl
  have hh0 := blk_cell hh 0 _ rfl
  have hh1 := blk_cell hh 1 _ rfl
  have hhl := blk_lt hh
  clear hh
  clear hX
  go_simp
 try simp only [Act.put, zA, zB, zC]
 refine tG 4 (.agg #[.string ⟨nm.toArray⟩, .int .i64 x1, .int .i64 x2, .int .i64 y1, .int .i64 y2]) (some 46) (GK.grow _) rfl (YieldsIf.toG (Or.inl ⟨by rfl, ?_⟩)) (GK.drop (by simp)) ?_
 ·intro X hX
  clear hX
  go_simp
 try simp only [Act.put, zA, zB, zC]
 refine only_G 5 (by kernel_rfl) rfl (fun X20 hX K' hK' => ?_)
 replace NN := Lib.hid (Bgo NN.out hX)
 replace S5 := Lib.hid (blk_next hX S5.out)
 replace X2 := Lib.hid (blk_next hX X2.out)
 replace Y2 := Lib.hid (blk_next hX Y2.out)
 replace HAL := Lib.hid (fun kx9 => GK.grow _ _ _ _ (HAL.out kx9) hX)
 clear hX
 go_simp
 refine hK'.out _ _ (fun _ _ h => h.alloc _) ?_
 clear hK' K'
 try simp only [Act.put, zA, zB, zC]
 have HB := Lib.hid (Bal (Below.refl X20.heap.size X20) (.cells #[.string ⟨#[]⟩, .int .i64 0, .int .i64 0, .int .i64 0, .int .i64 0] 69))
 have T5 : Hid ((X20.alloc (.cells #[.string ⟨#[]⟩, .int .i64 0, .int .i64 0, .int .i64 0, .int .i64 0] 69)).heap[X20.heap.size]? = some (.cells #[.string ⟨#[]⟩, .int .i64 0, .int .i64 0, .int .i64 0, .int .i64 0] 69)) := Lib.hid (blk_new X20 (.cells #[.string ⟨#[]⟩, .int .i64 0, .int .i64 0, .int .i64 0, .int .i64 0] 69))
 have LT_T5 : Hid (w.heap.size < X20.heap.size ∧ gX < X20.heap.size ∧ gY < X20.heap.size ∧ w.heap.size ≤ X20.heap.size) := Lib.hid ⟨blk_lt S5.out, blk_lt X2.out, blk_lt Y2.out, NN.out.size⟩
 replace NN := Lib.hid (Bgo NN.out HB.out)
 replace S5 := Lib.hid (blk_next HB.out S5.out)
 replace X2 := Lib.hid (blk_next HB.out X2.out)
 replace Y2 := Lib.hid (blk_next HB.out Y2.out)
 replace HAL := Lib.hid (fun kx9 => GK.grow _ _ _ _ (HAL.out kx9) HB.out)
 clear HB
 generalize X20.alloc (.cells #[.string ⟨#[]⟩, .int .i64 0, .int .i64 0, .int .i64 0, .int .i64 0] 69) = W21 at *
 generalize X20.heap.size = gT5 at *
 refine only_G 6 (by kernel_rfl) rfl (fun X22 hX K' hK' => ?_)
 replace NN := Lib.hid (Bgo NN.out hX)
 replace S5 := Lib.hid (blk_next hX S5.out)
 replace X2 := Lib.hid (blk_next hX X2.out)
 replace Y2 := Lib.hid (blk_next hX Y2.out)
 replace T5 := Lib.hid (blk_next hX T5.out)
 replace HAL := Lib.hid (fun kx9 => GK.grow _ _ _ _ (HAL.out kx9) hX)
 clear hX
 have c_T5_0 := blk_cell T5.out 0 _ rfl
 have f_T5_0 := blk_frozen T5.out 0
 have c_T5_1 := blk_cell T5.out 1 _ rfl
 have f_T5_1 := blk_frozen T5.out 1
 have c_T5_2 := blk_cell T5.out 2 _ rfl
 have f_T5_2 := blk_frozen T5.out 2
 have c_T5_3 := blk_cell T5.out 3 _ rfl
 have f_T5_3 := blk_frozen T5.out 3
 have c_T5_4 := blk_cell T5.out 4 _ rfl
 have f_T5_4 := blk_frozen T5.out 4
 have l_T5 := blk_lt T5.out
 go_simp
 clear c_T5_0 f_T5_0 c_T5_1 f_T5_1 c_T5_2 f_T5_2 c_T5_3 f_T5_3 c_T5_4 f_T5_4 l_T5
 refine hK'.out _ _ (fun kk hk hS => ?_) ?_
 ·have HN : ∀ px9 ∈ ([(2, gX, .cells #[.int .i64 x1, .int .i64 x2] 36), (3, gY, .cells #[.int .i64 y1, .int .i64 y2] 36)] : List (Nat × Nat × Obj)), px9.1 = kk → px9.2.1 ≠ gT5 := fun px9 hp e => by
   simp only [List.mem_cons, List.not_mem_nil, or_false] at hp
   rcases hp with rfl | rfl
   ·subst e
    exact bfl (by kernel_rfl) hk
   ·subst e
    exact bfl (by kernel_rfl) hk
  exact GK.set (GK.set (GK.set (GK.set (GK.set hS HN) HN) HN) HN) HN
 clear hK' K'
 try simp only [Act.put, zA, zB, zC]
 clear HAL
 replace S5 : Hid ((((((X22.setCell ⟨gT5, 0, none⟩ (.string ⟨nm.toArray⟩)).setCell ⟨gT5, 1, none⟩ (.int .i64 x1)).setCell ⟨gT5, 2, none⟩ (.int .i64 x2)).setCell ⟨gT5, 3, none⟩ (.int .i64 y1)).setCell ⟨gT5, 4, none⟩ (.int .i64 y2)).heap[w.heap.size]? = some (.cells #[.string ⟨#[]⟩, .int .i64 0, .int .i64 0, .int .i64 0, .int .i64 0] 69)) := Lib.hid (blk_set_other (b' := gT5) (blk_set_other (b' := gT5) (blk_set_other (b' := gT5) (blk_set_other (b' := gT5) (blk_set_other (b' := gT5) (S5.out) (by have := LT_T5.out; omega) 0 (.string ⟨nm.toArray⟩)) (by have := LT_T5.out; omega) 1 (.int .i64 x1)) (by have := LT_T5.out; omega) 2 (.int .i64 x2)) (by have := LT_T5.out; omega) 3 (.int .i64 y1)) (by have := LT_T5.out; omega) 4 (.int .i64 y2))
 replace X2 : Hid ((((((X22.setCell ⟨gT5, 0, none⟩ (.string ⟨nm.toArray⟩)).setCell ⟨gT5, 1, none⟩ (.int .i64 x1)).setCell ⟨gT5, 2, none⟩ (.int .i64 x2)).setCell ⟨gT5, 3, none⟩ (.int .i64 y1)).setCell ⟨gT5, 4, none⟩ (.int .i64 y2)).heap[gX]? = some (.cells #[.int .i64 x1, .int .i64 x2] 36)) := Lib.hid (blk_set_other (b' := gT5) (blk_set_other (b' := gT5) (blk_set_other (b' := gT5) (blk_set_other (b' := gT5) (blk_set_other (b' := gT5) (X2.out) (by have := LT_T5.out; omega) 0 (.string ⟨nm.toArray⟩)) (by have := LT_T5.out; omega) 1 (.int .i64 x1)) (by have := LT_T5.out; omega) 2 (.int .i64 x2)) (by have := LT_T5.out; omega) 3 (.int .i64 y1)) (by have := LT_T5.out; omega) 4 (.int .i64 y2))
 replace Y2 : Hid ((((((X22.setCell ⟨gT5, 0, none⟩ (.string ⟨nm.toArray⟩)).setCell ⟨gT5, 1, none⟩ (.int .i64 x1)).setCell ⟨gT5, 2, none⟩ (.int .i64 x2)).setCell ⟨gT5, 3, none⟩ (.int .i64 y1)).setCell ⟨gT5, 4, none⟩ (.int .i64 y2)).heap[gY]? = some (.cells #[.int .i64 y1, .int .i64 y2] 36)) := Lib.hid (blk_set_other (b' := gT5) (blk_set_other (b' := gT5) (blk_set_other (b' := gT5) (blk_set_other (b' := gT5) (blk_set_other (b' := gT5) (Y2.out) (by have := LT_T5.out; omega) 0 (.string ⟨nm.toArray⟩)) (by have := LT_T5.out; omega) 1 (.int .i64 x1)) (by have := LT_T5.out; omega) 2 (.int .i64 x2)) (by have := LT_T5.out; omega) 3 (.int .i64 y1)) (by have := LT_T5.out; omega) 4 (.int .i64 y2))
 replace T5 : Hid ((((((X22.setCell ⟨gT5, 0, none⟩ (.string ⟨nm.toArray⟩)).setCell ⟨gT5, 1, none⟩ (.int .i64 x1)).setCell ⟨gT5, 2, none⟩ (.int .i64 x2)).setCell ⟨gT5, 3, none⟩ (.int .i64 y1)).setCell ⟨gT5, 4, none⟩ (.int .i64 y2)).heap[gT5]? = some (.cells #[.string ⟨nm.toArray⟩, .int .i64 x1, .int .i64 x2, .int .i64 y1, .int .i64 y2] 69)) := Lib.hid (blk_set (blk_set (blk_set (blk_set (blk_set (T5.out) 0 (.string ⟨nm.toArray⟩)) 1 (.int .i64 x1)) 2 (.int .i64 x2)) 3 (.int .i64 y1)) 4 (.int .i64 y2))
 replace NN := Lib.hid (Bset1 (Bset1 (Bset1 (Bset1 (Bset1 (NN.out) (show w.heap.size ≤ gT5 by have := LT_T5.out; omega) 0 (.string ⟨nm.toArray⟩)) (show w.heap.size ≤ gT5 by have := LT_T5.out; omega) 1 (.int .i64 x1)) (show w.heap.size ≤ gT5 by have := LT_T5.out; omega) 2 (.int .i64 x2)) (show w.heap.size ≤ gT5 by have := LT_T5.out; omega) 3 (.int .i64 y1)) (show w.heap.size ≤ gT5 by have := LT_T5.out; omega) 4 (.int .i64 y2))
 generalize (((((X22.setCell ⟨gT5, 0, none⟩ (.string ⟨nm.toArray⟩)).setCell ⟨gT5, 1, none⟩ (.int .i64 x1)).setCell ⟨gT5, 2, none⟩ (.int .i64 x2)).setCell ⟨gT5, 3, none⟩ (.int .i64 y1)).setCell ⟨gT5, 4, none⟩ (.int .i64 y2)) = W23 at *
 refine done_G (by kernel_rfl) (fun X24 hX => ?_) _
 replace NN := Lib.hid (Bgo NN.out hX)
 replace S5 := Lib.hid (blk_next hX S5.out)
 replace X2 := Lib.hid (blk_next hX X2.out)
 replace Y2 := Lib.hid (blk_next hX Y2.out)
 replace T5 := Lib.hid (blk_next hX T5.out)
 clear hX
 go_upto_region 10 with fail
 clear X2 Y2
 have HDRW := Lib.hid (Below.drew (Below.refl X24.heap.size X24))
 replace NN := Lib.hid (Bgo NN.out HDRW.out)
 replace S5 := Lib.hid (blk_next HDRW.out S5.out)
 replace T5 := Lib.hid (blk_next HDRW.out T5.out)
 clear HDRW
 have HAL : Hid (∀ kx9 : Nat, GK [(0, gT5, .cells #[.string ⟨nm.toArray⟩, .int .i64 x1, .int .i64 x2, .int .i64 y1, .int .i64 y2] 69), (1, gT5, .cells #[.string ⟨nm.toArray⟩, .int .i64 x1, .int .i64 x2, .int .i64 y1, .int .i64 y2] 69)] kx9 X24.drew) := Lib.hid (fun kx9 => fun px9 hp e => by
  simp only [List.mem_cons, List.not_mem_nil, or_false] at hp
  rcases hp with rfl | rfl
  ·exact T5.out
  ·exact T5.out
 )
 refine region_G (S := GK [(0, gT5, .cells #[.string ⟨nm.toArray⟩, .int .i64 x1, .int .i64 x2, .int .i64 y1, .int .i64 y2] 69), (1, gT5, .cells #[.string ⟨nm.toArray⟩, .int .i64 x1, .int .i64 x2, .int .i64 y1, .int .i64 y2] 69)]) (by kernel_rfl) ?_
 refine tG 0 (.agg #[.string ⟨nm.toArray⟩, .int .i64 x1, .int .i64 x2, .int .i64 y1, .int .i64 y2]) (some 47) (GK.grow _) rfl (YieldsIf.toG (Or.inl ⟨by rfl, ?_⟩)) (HAL.out 0) ?_
 ·intro X hX
  have hh := hX (0, gT5, .cells #[.string ⟨nm.toArray⟩, .int .i64 x1, .int .i64 x2, .int .i64 y1, .int .i64 y2] 69) (List.Mem.head _) rfl
  have hh0 := blk_cell hh 0 _ rfl
  have hh1 := blk_cell hh 1 _ rfl
  have hh2 := blk_cell hh 2 _ rfl
  have hh3 := blk_cell hh 3 _ rfl
  have hh4 := blk_cell hh 4 _ rfl
  have hhl := blk_lt hh
  clear hh
  clear hX
  go_simp
 try simp only [Act.put, zA, zB, zC]
 refine tG 1 (.agg #[.string ⟨nm.toArray⟩, .int .i64 x1, .int .i64 x2, .int .i64 y1, .int .i64 y2]) (some 48) (GK.grow _) rfl (YieldsIf.toG (Or.inl ⟨by rfl, ?_⟩)) (HAL.out 1) ?_
 ·intro X hX
  have hh := hX (1, gT5, .cells #[.string ⟨nm.toArray⟩, .int .i64 x1, .int .i64 x2, .int .i64 y1, .int .i64 y2] 69) (List.Mem.tail _ (List.Mem.head _)) rfl
  have hh0 := blk_cell hh 0 _ rfl
  have hh1 := blk_cell hh 1 _ rfl
  have hh2 := blk_cell hh 2 _ rfl
  have hh3 := blk_cell hh 3 _ rfl
  have hh4 := blk_cell hh 4 _ rfl
  have hhl := blk_lt hh
  clear hh
  clear hX
  go_simp
 try simp only [Act.put, zA, zB, zC]
 have CFn : ∀ (args : Array Value) (W : World), Sem.run Tryz.prog (callFunc 74 args) W = .ok (.enter 74 args) W := fun _ _ => by kernel_rfl
 refine tG 2 (.bool (valS ⟨⟨nm.toArray⟩, x1, x2, y1, y2⟩)) (some 49) (GK.grow _) rfl (yieldsG_call 74 #[.agg #[.string ⟨nm.toArray⟩, .int .i64 x1, .int .i64 x2, .int .i64 y1, .int .i64 y2]] (by rfl) ?_ (fun X hS => VC.out X)) (GK.drop (by simp)) ?_
 ·intro X hX
  clear hX
  go_simp
 clear CFn
 try simp only [Act.put, zA, zB, zC]
 refine only_G 3 (by kernel_rfl) rfl (fun X25 hX K' hK' => ?_)
 replace NN := Lib.hid (Bgo NN.out hX)
 replace S5 := Lib.hid (blk_next hX S5.out)
 replace T5 := Lib.hid (blk_next hX T5.out)
 replace HAL := Lib.hid (fun kx9 => GK.grow _ _ _ _ (HAL.out kx9) hX)
 clear hX
 have c_S5_0 := blk_cell S5.out 0 _ rfl
 have f_S5_0 := blk_frozen S5.out 0
 have c_S5_1 := blk_cell S5.out 1 _ rfl
 have f_S5_1 := blk_frozen S5.out 1
 have c_S5_2 := blk_cell S5.out 2 _ rfl
 have f_S5_2 := blk_frozen S5.out 2
 have c_S5_3 := blk_cell S5.out 3 _ rfl
 have f_S5_3 := blk_frozen S5.out 3
 have c_S5_4 := blk_cell S5.out 4 _ rfl
 have f_S5_4 := blk_frozen S5.out 4
 have l_S5 := blk_lt S5.out
 go_simp
 clear c_S5_0 f_S5_0 c_S5_1 f_S5_1 c_S5_2 f_S5_2 c_S5_3 f_S5_3 c_S5_4 f_S5_4 l_S5
 refine hK'.out _ _ (fun kk hk hS => ?_) ?_
 ·have HN : ∀ px9 ∈ ([(0, gT5, .cells #[.string ⟨nm.toArray⟩, .int .i64 x1, .int .i64 x2, .int .i64 y1, .int .i64 y2] 69), (1, gT5, .cells #[.string ⟨nm.toArray⟩, .int .i64 x1, .int .i64 x2, .int .i64 y1, .int .i64 y2] 69)] : List (Nat × Nat × Obj)), px9.1 = kk → px9.2.1 ≠ w.heap.size := fun px9 hp e => by
   simp only [List.mem_cons, List.not_mem_nil, or_false] at hp
   rcases hp with rfl | rfl
   ·subst e
    exact bfl (by kernel_rfl) hk
   ·subst e
    exact bfl (by kernel_rfl) hk
  exact GK.set (GK.set (GK.set (GK.set (GK.set hS HN) HN) HN) HN) HN
 clear hK' K'
 try simp only [Act.put, zA, zB, zC]
 clear HAL
 replace S5 : Hid ((((((X25.setCell ⟨w.heap.size, 0, none⟩ (.string ⟨nm.toArray⟩)).setCell ⟨w.heap.size, 1, none⟩ (.int .i64 x1)).setCell ⟨w.heap.size, 2, none⟩ (.int .i64 x2)).setCell ⟨w.heap.size, 3, none⟩ (.int .i64 y1)).setCell ⟨w.heap.size, 4, none⟩ (.int .i64 y2)).heap[w.heap.size]? = some (.cells #[.string ⟨nm.toArray⟩, .int .i64 x1, .int .i64 x2, .int .i64 y1, .int .i64 y2] 69)) := Lib.hid (blk_set (blk_set (blk_set (blk_set (blk_set (S5.out) 0 (.string ⟨nm.toArray⟩)) 1 (.int .i64 x1)) 2 (.int .i64 x2)) 3 (.int .i64 y1)) 4 (.int .i64 y2))
 replace T5 : Hid ((((((X25.setCell ⟨w.heap.size, 0, none⟩ (.string ⟨nm.toArray⟩)).setCell ⟨w.heap.size, 1, none⟩ (.int .i64 x1)).setCell ⟨w.heap.size, 2, none⟩ (.int .i64 x2)).setCell ⟨w.heap.size, 3, none⟩ (.int .i64 y1)).setCell ⟨w.heap.size, 4, none⟩ (.int .i64 y2)).heap[gT5]? = some (.cells #[.string ⟨nm.toArray⟩, .int .i64 x1, .int .i64 x2, .int .i64 y1, .int .i64 y2] 69)) := Lib.hid (blk_set_other (b' := w.heap.size) (blk_set_other (b' := w.heap.size) (blk_set_other (b' := w.heap.size) (blk_set_other (b' := w.heap.size) (blk_set_other (b' := w.heap.size) (T5.out) (by have := LT_T5.out; omega) 0 (.string ⟨nm.toArray⟩)) (by have := LT_T5.out; omega) 1 (.int .i64 x1)) (by have := LT_T5.out; omega) 2 (.int .i64 x2)) (by have := LT_T5.out; omega) 3 (.int .i64 y1)) (by have := LT_T5.out; omega) 4 (.int .i64 y2))
 replace NN := Lib.hid (Bset1 (Bset1 (Bset1 (Bset1 (Bset1 (NN.out) (show w.heap.size ≤ w.heap.size by omega) 0 (.string ⟨nm.toArray⟩)) (show w.heap.size ≤ w.heap.size by omega) 1 (.int .i64 x1)) (show w.heap.size ≤ w.heap.size by omega) 2 (.int .i64 x2)) (show w.heap.size ≤ w.heap.size by omega) 3 (.int .i64 y1)) (show w.heap.size ≤ w.heap.size by omega) 4 (.int .i64 y2))
 generalize (((((X25.setCell ⟨w.heap.size, 0, none⟩ (.string ⟨nm.toArray⟩)).setCell ⟨w.heap.size, 1, none⟩ (.int .i64 x1)).setCell ⟨w.heap.size, 2, none⟩ (.int .i64 x2)).setCell ⟨w.heap.size, 3, none⟩ (.int .i64 y1)).setCell ⟨w.heap.size, 4, none⟩ (.int .i64 y2)) = W26 at *
 refine tG 4 (.bool (valS ⟨⟨nm.toArray⟩, x1, x2, y1, y2⟩)) (some 3) (GK.grow _) rfl (YieldsIf.toG (Or.inl ⟨by rfl, ?_⟩)) (GK.drop (by simp)) ?_
 ·intro X hX
  clear hX
  go_simp
 try simp only [Act.put, zA, zB, zC]
 refine done_G (by kernel_rfl) (fun X27 hX => ?_) _
 replace NN := Lib.hid (Bgo NN.out hX)
 replace S5 := Lib.hid (blk_next hX S5.out)
 replace T5 := Lib.hid (blk_next hX T5.out)
 clear hX
 have c_S5_0 := blk_cell S5.out 0 _ rfl
 have f_S5_0 := blk_frozen S5.out 0
 have c_S5_1 := blk_cell S5.out 1 _ rfl
 have f_S5_1 := blk_frozen S5.out 1
 have c_S5_2 := blk_cell S5.out 2 _ rfl
 have f_S5_2 := blk_frozen S5.out 2
 have c_S5_3 := blk_cell S5.out 3 _ rfl
 have f_S5_3 := blk_frozen S5.out 3
 have c_S5_4 := blk_cell S5.out 4 _ rfl
 have f_S5_4 := blk_frozen S5.out 4
 have l_S5 := blk_lt S5.out
 go_wp2_with fail
 refine bodyPost_ret (v := .tuple #[Sv ⟨⟨nm.toArray⟩, x1, x2, y1, y2⟩, .bool (valS ⟨⟨nm.toArray⟩, x1, x2, y1, y2⟩)]) (by simp [results, Tryz.results57, go_sem, c_S5_0, c_S5_1, c_S5_2, c_S5_3, c_S5_4]) rfl ⟨⟨⟨nm.toArray⟩, x1, x2, y1, y2⟩, ret_site (by rw [LS.out]; split <;> simp [*]), fun s h => (by
  rw [LS.out] at h
  split at h
  ·injection h
  ·cases h), NN.out⟩
end Go.Proofs.YtfangplfbbgphaaGreatDoor
