/- Several texts in one. -/
import Derived.Shelf.LaysM
import Derived.Shelf.Strconv.Clone
import Derived.Test.YtfangplfbbgphaaGreatDoorProg
import Derived.Test.YtfangplfbbgphaaGreatDoorMN06
import Derived.Test.YtfangplfbbgphaaGreatDoorMN07
import Derived.Test.YtfangplfbbgphaaGreatDoorMN13
import Derived.Test.YtfangplfbbgphaaGreatDoorMN14
namespace Go.Proofs.YtfangplfbbgphaaGreatDoor
open Go.ChangeShapes Go.WideShapes Go.ChangeAt Go.RowKit
set_option linter.unusedVariables false
set_option maxRecDepth 100000
set_option linter.unusedSimpArgs false
attribute [local go_sem ↓] Go.wp_at_zero Go.wp_at_succ
attribute [local go_sem ↓] eqVe
def vec5 : List V6 := [⟨5, 1, 0, 1, 0, 1⟩, ⟨0, 1, 5, 1, 0, 1⟩, ⟨0, 1, -5, 1, 0, 1⟩, ⟨0, 1, 0, 1, 5, 1⟩, ⟨0, 1, 0, 1, -5, 1⟩]
theorem five_nm : ∀ x ∈ five5, x.nm.size ≤ 9223372036854775807 := by
 intro x hx
 unfold five5 at hx
 simp only [List.mem_cons, List.not_mem_nil, or_false] at hx
 rcases hx with rfl | rfl | rfl | rfl | rfl <;> decide
theorem five_rd {W : World} {g : Nat} (h : W.heap[g]? = some (.cells (five5.flatMap st5).toArray 69)) : RSt W (some ⟨g, 0, none⟩) five5 := Rd.blk h rfl
theorem five_places {W : World} {g : Nat} (h : W.heap[g]? = some (.cells (five5.flatMap st5).toArray 69)) : Calls Tryz.prog 26 #[Gv 5 5, .slice (some ⟨g, 0, none⟩) 5 5] W fun e w' =>
  ∃ g', e = .returned (.tuple #[.slice (some ⟨g', 0, none⟩) 5 5, .int .i64 0]) ∧ w'.heap[g']? = some (.cells (vec5.flatMap v6).toArray 38) ∧ Below W.heap.size W w' := by
 refine (aplaces_calls (A := 5) (B := 5) (l := five5) (c := 5) (five_rd h) (by decide) (by decide) five_nm).mono ?_
 rintro e w' ⟨v, rfl, hb, -, h2⟩
 rw [five_pl] at h2 ⊢
 obtain ⟨g', rfl, -, h4⟩ := h2 rfl
 rw [five_vec] at h4
 exact ⟨g', rfl, h4, hb⟩
theorem five_line {W : World} {g : Nat} (h : W.heap[g]? = some (.cells (five5.flatMap st5).toArray 69)) : Calls Tryz.prog 13 #[Gv 5 5, .slice (some ⟨g, 0, none⟩) 5 5, .int .i64 0, .int .i64 1] W fun e w' =>
  e = .returned (.tuple #[Vv ⟨-5, 1, 5, 1, 0, 1⟩, .int .i64 0]) ∧ Below W.heap.size W w' := by
 have := aline_calls 0 1 (A := 5) (B := 5) (l := five5) (c := 5) (five_rd h) (by decide) (by decide) five_nm
 rw [five_li.1, five_li.2] at this
 exact this
theorem five_classes {W : World} {g : Nat} (h : W.heap[g]? = some (.cells (five5.flatMap st5).toArray 69)) : Calls Tryz.prog 10 #[Gv 5 5, .slice (some ⟨g, 0, none⟩) 5 5] W fun e w' =>
  ∃ gc c0 cur hs, e = .returned (.tuple #[.slice (some ⟨gc, 0, none⟩) 8 c0, .int .i64 0]) ∧ 8 ≤ c0 ∧ c0 ≤ 9223372036854775807 ∧ OC W.heap.size w' (.slice (some ⟨gc, 0, none⟩) 8 c0) cls8 hs ∧ w'.heap[gc]? = some (.cells cur 40) ∧ Below W.heap.size W w' := by
 refine (aclasses_calls (A := 5) (B := 5) (l := five5) (c := 5) (five_rd h) (by decide) (by decide) five_nm).mono ?_
 rintro e w' ⟨v, rfl, hb, -, h2⟩
 rw [five_pl] at h2 ⊢
 obtain ⟨hs, h4⟩ := h2 rfl
 rw [five_cls] at h4
 obtain ⟨A0, c0, hv, h5, h6, -⟩ := Rd.of_own h4.row
 subst hv
 obtain ⟨gc, cur, rfl, -, h7, -⟩ := h4.cells (by decide)
 exact ⟨gc, c0, cur, hs, rfl, h5, h6, h4, h7, hb⟩
theorem rd_prefix {W : World} {sz : Nat} {A : Option Addr} {n m : Nat} {xs ys : List Value} (h : Rd W sz A n (xs ++ ys)) (hm : xs.length = m * sz) (hn : 0 < n) : Rd W sz A m xs :=
 ⟨hm, fun _ => by
  obtain ⟨b, off, e, hl, hc⟩ := h.2 hn
  exact ⟨b, off, e, hl, fun j u hu => hc j u (by rw [List.getElem?_append_left (List.getElem?_eq_some_iff.1 hu).1]; exact hu)⟩⟩
theorem rd_own {B : Nat} {W : World} {e : TypeId} {sz n c : Nat} {A : Option Addr} {xs : List Value} (h : W.ownsRow B e sz (.slice A n c) n xs) : Rd W sz A n xs := by
 obtain ⟨A0, c0, e, -, -, h2⟩ := Rd.of_own h
 injection e with e1
 subst e1
 exact h2
theorem sameP_two {W : World} {Au : Option Addr} {cu g : Nat} {cp : List (Nat × Nat)} (h : cp = [(1, 3), (2, 4)]) (hr : Rd W 2 Au cp.length (cp.flatMap pr2)) (h1 : cp.length ≤ cu) (h2 : cu ≤ 9223372036854775807) (hs : W.heap[g]? = some (.cells #[.int .i64 1, .int .i64 3, .int .i64 2, .int .i64 4] 43)) :
  Calls Tryz.prog 32 #[.slice Au cp.length cu, .slice (some ⟨g, 0, none⟩) 2 2] W fun e w' => e = .returned (.bool true) ∧ Below W.heap.size W w' := by
 subst h
 exact sameP_calls Au (some ⟨g, 0, none⟩) cu 2 [(1, 3), (2, 4)] W hr (Rd.blk hs rfl) h1 h2 (by decide) (by decide)
theorem five_same {W : World} {g g' : Nat} (h : W.heap[g]? = some (.cells (vec5.flatMap v6).toArray 38)) (h' : W.heap[g']? = some (.cells #[.int .i64 5, .int .i64 1, .int .i64 0, .int .i64 1, .int .i64 0, .int .i64 1, .int .i64 0, .int .i64 1, .int .i64 5, .int .i64 1, .int .i64 0, .int .i64 1, .int .i64 0, .int .i64 1, .int .i64 (-5), .int .i64 1, .int .i64 0, .int .i64 1, .int .i64 0, .int .i64 1, .int .i64 0, .int .i64 1, .int .i64 5, .int .i64 1, .int .i64 0, .int .i64 1, .int .i64 0, .int .i64 1, .int .i64 (-5), .int .i64 1] 38)) :
  Calls Tryz.prog 35 #[.slice (some ⟨g, 0, none⟩) 5 5, .slice (some ⟨g', 0, none⟩) 5 5] W fun e w' => e = .returned (.bool true) ∧ Below W.heap.size W w' :=
 sameV_calls (some ⟨g, 0, none⟩) (some ⟨g', 0, none⟩) 5 5 vec5 W (Rd.blk h rfl) (Rd.blk h' rfl) (by decide) (by decide) (by decide) (by decide)
theorem five_text {W : World} {g : Nat} (h : W.heap[g]? = some (.cells (five5.flatMap st5).toArray 69)) (hg : GT W) : Calls Tryz.prog 18 #[.slice (some ⟨g, 0, none⟩) 2 5] W fun e w' =>
  e = .returned (.tuple #[.string ⟨#[97, 32, 48, 32, 48, 10, 98, 32, 48, 32, 49, 10]⟩, .int .i64 0]) ∧ Below W.heap.size W w' := by
 have := atext_calls (l := five5.take 2) (c := 5) (rd_prefix (ys := (five5.drop 2).flatMap st5) (five_rd h) rfl (by decide)) (by decide) (by decide) (fun x hx => five_nm x (List.mem_of_mem_take hx)) hg
 rw [five_tx.1, five_tx.2] at this
 exact this
set_option maxRecDepth 100000 in
set_option maxHeartbeats 16000000 in
theorem alive_calls (w : World) (g : GT w) : Calls Tryz.prog 9 #[] w fun e w' => e = .returned (.bool true) ∧ Below w.heap.size w w' := by
 have NN := Lib.hid (Below.refl w.heap.size w)
 have GG := Lib.hid g
 clear g
 obtain ⟨tg, htg⟩ : ∃ t : V6, t = ⟨0, 1, -5, 1, 5, 1⟩ := ⟨_, rfl⟩
 obtain ⟨lv, hlv⟩ : ∃ t : V6, t = ⟨-5, 1, 5, 1, 0, 1⟩ := ⟨_, rfl⟩
 have TG := Lib.hid (fun W => by have := lof_calls 0 (-5) 5 W; rw [← htg] at this; exact this)
 have TL := Lib.hid (fun W => by have := lof_calls (-5) 5 0 W; rw [← hlv] at this; exact this)
 have FL := Lib.hid (fun (W : World) (g : Nat) (h : W.heap[g]? = some (.cells (five5.flatMap st5).toArray 69)) => by have := five_line h; rw [← hlv] at this; exact this)
 have HT := Lib.hid htg
 clear htg hlv
 go_enter Tryz.func9, Tryz.ntmps9
 go_wp2_with fail
 refine (lglobe_calls _).mono ?_
 rintro e w1 ⟨rfl, hb⟩
 replace NN := Lib.hid (Bgo NN.out hb)
 clear hb
 go_wp2_with fail
 refine (lfive_calls _).mono ?_
 rintro e w2 ⟨ga, rfl, -, h5, hb⟩
 replace NN := Lib.hid (Bgo NN.out hb)
 clear hb
 go_wp2_with fail
 refine (five_places h5).mono ?_
 rintro e w3 ⟨gp, rfl, hp, hb⟩
 have PV := Lib.hid hp
 clear hp h5
 replace NN := Lib.hid (Bgo NN.out hb)
 clear hb
 go_wp2_with fail
 refine (lglobe_calls _).mono ?_
 rintro e w4 ⟨rfl, hb⟩
 replace NN := Lib.hid (Bgo NN.out hb)
 replace PV := Lib.hid (blk_next hb PV.out)
 clear hb
 go_wp2_with fail
 refine (lfive_calls _).mono ?_
 rintro e w5 ⟨gb, rfl, -, h5, hb⟩
 replace NN := Lib.hid (Bgo NN.out hb)
 replace PV := Lib.hid (blk_next hb PV.out)
 clear hb
 go_wp2_with fail
 refine (FL.out _ _ h5).mono ?_
 rintro e w6 ⟨rfl, hb⟩
 replace NN := Lib.hid (Bgo NN.out hb)
 replace PV := Lib.hid (blk_next hb PV.out)
 clear hb
 clear h5
 go_wp2_with fail
 have R : Hid ((w6.alloc (.cells #[.int .i64 lv.x1, .int .i64 lv.x2, .int .i64 lv.y1, .int .i64 lv.y2, .int .i64 lv.z1, .int .i64 lv.z2] 38)).heap[w6.heap.size]? = some (.cells #[.int .i64 lv.x1, .int .i64 lv.x2, .int .i64 lv.y1, .int .i64 lv.y2, .int .i64 lv.z1, .int .i64 lv.z2] 38)) := Lib.hid (blk_new w6 _)
 have HB := Lib.hid (Bal (Below.refl w6.heap.size w6) (.cells #[.int .i64 lv.x1, .int .i64 lv.x2, .int .i64 lv.y1, .int .i64 lv.y2, .int .i64 lv.z1, .int .i64 lv.z2] 38))
 have LR : Hid (w.heap.size ≤ w6.heap.size) := Lib.hid NN.out.size
 replace NN := Lib.hid (Bgo NN.out HB.out)
 replace PV := Lib.hid (blk_next HB.out PV.out)
 clear HB
 refine (lglobe_calls _).mono ?_
 rintro e w7 ⟨rfl, hb⟩
 replace NN := Lib.hid (Bgo NN.out hb)
 replace PV := Lib.hid (blk_next hb PV.out)
 replace R := Lib.hid (blk_next hb R.out)
 clear hb
 go_wp2_with fail
 refine (lfive_calls _).mono ?_
 rintro e w8 ⟨gb, rfl, -, h5, hb⟩
 replace NN := Lib.hid (Bgo NN.out hb)
 replace PV := Lib.hid (blk_next hb PV.out)
 replace R := Lib.hid (blk_next hb R.out)
 clear hb
 go_wp2_with fail
 refine (five_classes h5).mono ?_
 rintro e w9 ⟨gc, c0, cur, hs, rfl, hc8, hc9, ho, hcu, hb⟩
 have OX := Lib.hid ho
 have CU := Lib.hid hcu
 have CB : Hid (w.heap.size ≤ gc) := Lib.hid (Nat.le_trans NN.out.size ((ho.row.lt gc rfl).1))
 clear ho hcu h5
 replace NN := Lib.hid (Bgo NN.out hb)
 replace PV := Lib.hid (blk_next hb PV.out)
 replace R := Lib.hid (blk_next hb R.out)
 clear hb
 go_wp2_with fail
 refine (lfive_calls _).mono ?_
 rintro e w10 ⟨gb, rfl, -, h5, hb⟩
 replace NN := Lib.hid (Bgo NN.out hb)
 replace PV := Lib.hid (blk_next hb PV.out)
 replace OX := Lib.hid (OC.next OX.out hb)
 replace CU := Lib.hid (blk_next hb CU.out)
 replace R := Lib.hid (blk_next hb R.out)
 clear hb
 go_wp2_with fail
 refine (five_text h5 (GG.out.next NN.out)).mono ?_
 rintro e w11 ⟨rfl, hb⟩
 replace NN := Lib.hid (Bgo NN.out hb)
 replace PV := Lib.hid (blk_next hb PV.out)
 replace OX := Lib.hid (OC.next OX.out hb)
 replace CU := Lib.hid (blk_next hb CU.out)
 replace R := Lib.hid (blk_next hb R.out)
 clear hb
 clear h5
 go_wp2_with fail
 generalize w6.heap.size = gl at *
 obtain ⟨B0, hB0⟩ : ∃ B0, OC B0 w11 (.slice (some ⟨gc, 0, none⟩) 8 c0) cls8 hs := ⟨_, OX.out⟩
 clear OX
 have OX := Lib.hid hB0
 clear hB0
 go_loopw [9, 10] (fun v i wr => ∃ k : Nat, k ≤ 8 ∧ i = .int .i64 k ∧ v = .bool (decide (5 < k)) ∧ Hid (Below w.heap.size w wr) ∧ Hid (wr.heap[gp]? = some (.cells (vec5.flatMap v6).toArray 38)) ∧ Hid (OC B0 wr (.slice (some ⟨gc, 0, none⟩) 8 c0) cls8 hs) ∧ Hid (wr.heap[gc]? = some (.cells cur 40)) ∧ Hid (wr.heap[gl]? = some (.cells #[.int .i64 lv.x1, .int .i64 lv.x2, .int .i64 lv.y1, .int .i64 lv.y2, .int .i64 lv.z1, .int .i64 lv.z2] 38))) (fun v i _ => 8 - (intOf i).toNat)
 case atStart => exact ⟨0, by omega, rfl, rfl, NN, PV, OX, CU, R⟩
 case round =>
  clear NN PV OX CU R
  obtain ⟨k, hk, rfl, rfl, NN, PV, OX, CU, R⟩ := hrel
  by_cases hlt : k < 8
  ·obtain ⟨c, hc⟩ : ∃ c, cls8[k]? = some c := ⟨_, List.getElem?_eq_getElem hlt⟩
   obtain ⟨u, hu⟩ := get_some (show k < hs.length by rw [OX.out.len]; exact hlt)
   have kk : k + 1 ≤ 8 := hlt
   obtain ⟨gc', cur', hgc, -, hcu', hcl⟩ := OX.out.cells (by decide)
   obtain rfl : gc' = gc := by injection hgc with e; injection e with e; exact e.symm
   obtain rfl : cur' = cur := by have := hcu'.symm.trans CU.out; injection this with e; injection e
   have CLs := Lib.hid (fun X hX j y hy => hcl X hX k c u hc hu j y hy)
   have OP := Lib.hid (OX.out.inn k c u hc hu)
   obtain ⟨Au, cu, hu0, hun, huc, -⟩ := Rd.of_own OP.out
   subst hu0
   clear hgc hcu' hcl hu
   go_upto_region 9 with fail
   have hc3 : k < 5 ∨ k = 5 ∨ 5 < k := by omega
   rcases hc3 with h | h | h
   ·have df : decide (5 < k) = false := decide_eq_false (by omega)
    have DK : Hid (decide (5 < k + 1) = false) := Lib.hid (decide_eq_false (by omega))
    rw [df]
    have dn : decide (c.1 = tg) = false := decide_eq_false (by
     rw [HT.out]
     have hk5 : k = 0 ∨ k = 1 ∨ k = 2 ∨ k = 3 ∨ k = 4 := by omega
     rcases hk5 with rfl | rfl | rfl | rfl | rfl <;> (injection hc with hc; subst hc; decide))
    clear df h hc hlt hk
    have HDRW := Lib.hid (Below.drew (Below.refl wr.heap.size wr))
    replace NN := Lib.hid (Bgo NN.out HDRW.out)
    replace PV := Lib.hid (blk_next HDRW.out PV.out)
    replace OX := Lib.hid (OC.next OX.out HDRW.out)
    replace CU := Lib.hid (blk_next HDRW.out CU.out)
    replace OP := Lib.hid (own_next HDRW.out OP.out)
    replace R := Lib.hid (blk_next HDRW.out R.out)
    clear HDRW
    have HAL : Hid (∀ kx9 : Nat, GK [(6, gc', .cells cur' 40)] kx9 wr.drew) := Lib.hid (fun kx9 => fun px9 hp e => by
     simp only [List.mem_cons, List.not_mem_nil, or_false] at hp
     subst hp
     exact CU.out
    )
    refine region_G (S := GK [(6, gc', .cells cur' 40)]) (by kernel_rfl) ?_
    refine tG 0 (.bool false) (some 41) (GK.grow _) rfl (YieldsIf.toG (Or.inl ⟨by rfl, ?_⟩)) (GK.drop (by simp)) ?_
    ·intro X hX
     clear hX
     go_simp
    try simp only [Act.put, zA, zB, zC]
    refine tG 1 (.bool false) (some 42) (GK.grow _) rfl (YieldsIf.toG (Or.inl ⟨by rfl, ?_⟩)) (GK.drop (by simp)) ?_
    ·intro X hX
     clear hX
     go_simp
    try simp only [Act.put, zA, zB, zC]
    refine tG 2 (.slice (some ⟨gc', 0, none⟩) 8 c0) (some 43) (GK.grow _) rfl (YieldsIf.toG (Or.inl ⟨by rfl, ?_⟩)) (GK.drop (by simp)) ?_
    ·intro X hX
     clear hX
     go_simp
    try simp only [Act.put, zA, zB, zC]
    refine tG 3 (.int .i64 (k : Int)) (some 44) (GK.grow _) rfl (YieldsIf.toG (Or.inl ⟨by rfl, ?_⟩)) (GK.drop (by simp)) ?_
    ·intro X hX
     clear hX
     go_simp
    try simp only [Act.put, zA, zB, zC]
    refine tG 4 (.pointer (some ⟨gc', k * 7, none⟩)) (some 45) (GK.grow _) rfl (YieldsIf.toG (Or.inl ⟨by rfl, ?_⟩)) (GK.drop (by simp)) ?_
    ·intro X hX
     clear hX
     go_simp
    try simp only [Act.put, zA, zB, zC]
    refine tG 5 (.pointer (some ⟨gc', k * 7, none⟩)) (some 46) (GK.grow _) rfl (YieldsIf.toG (Or.inl ⟨by rfl, ?_⟩)) (GK.drop (by simp)) ?_
    ·intro X hX
     clear hX
     go_simp
    try simp only [Act.put, zA, zB, zC]
    refine tG 6 (.agg #[.int .i64 c.1.x1, .int .i64 c.1.x2, .int .i64 c.1.y1, .int .i64 c.1.y2, .int .i64 c.1.z1, .int .i64 c.1.z2]) (some 47) (GK.grow _) rfl (YieldsIf.toG (Or.inl ⟨by rfl, ?_⟩)) (HAL.out 6) ?_
    ·intro X hX
     have hh := hX (6, gc', .cells cur' 40) (List.Mem.head _) rfl
     have hh0 := CLs.out _ hh 0 _ rfl
     simp only [Nat.add_zero] at hh0
     have hh1 := CLs.out _ hh 1 _ rfl
     have hh2 := CLs.out _ hh 2 _ rfl
     have hh3 := CLs.out _ hh 3 _ rfl
     have hh4 := CLs.out _ hh 4 _ rfl
     have hh5 := CLs.out _ hh 5 _ rfl
     have hhl := blk_lt hh
     clear hh
     clear hX
     go_simp
    try simp only [Act.put, zA, zB, zC]
    have CFn : ∀ (args : Array Value) (W : World), Sem.run Tryz.prog (callFunc 15 args) W = .ok (.enter 15 args) W := fun _ _ => by kernel_rfl
    refine tG 7 (.agg #[.int .i64 tg.x1, .int .i64 tg.x2, .int .i64 tg.y1, .int .i64 tg.y2, .int .i64 tg.z1, .int .i64 tg.z2]) (some 48) (GK.grow _) rfl (yieldsG_call 15 #[.int .i64 0, .int .i64 (-5), .int .i64 5] (by rfl) ?_ (fun X hS => TG.out X)) (GK.drop (by simp)) ?_
    ·intro X hX
     clear hX
     go_simp
    clear CFn
    try simp only [Act.put, zA, zB, zC]
    refine tG 8 (.bool false) (some 49) (GK.grow _) rfl (YieldsIf.toG (Or.inl ⟨by rfl, ?_⟩)) (GK.drop (by simp)) ?_
    ·intro X hX
     clear hX
     go_simp
    try simp only [Act.put, zA, zB, zC]
    refine tG 9 (.bool false) (some 50) (GK.grow _) rfl (YieldsIf.toG (Or.inl ⟨by rfl, ?_⟩)) (GK.drop (by simp)) ?_
    ·intro X hX
     clear hX
     go_simp
    try simp only [Act.put, zA, zB, zC]
    refine tG 10 (undef) (some 51) (GK.grow _) rfl (YieldsIf.toG (Or.inr ⟨by rfl, rfl⟩)) (GK.drop (by simp)) ?_
    try simp only [Act.put, zA, zB, zC]
    refine tG 11 (undef) (some 52) (GK.grow _) rfl (YieldsIf.toG (Or.inr ⟨by rfl, rfl⟩)) (GK.drop (by simp)) ?_
    try simp only [Act.put, zA, zB, zC]
    refine tG 12 (undef) (some 53) (GK.grow _) rfl (YieldsIf.toG (Or.inr ⟨by rfl, rfl⟩)) (GK.drop (by simp)) ?_
    try simp only [Act.put, zA, zB, zC]
    refine tG 13 (undef) (some 54) (GK.grow _) rfl (YieldsIf.toG (Or.inr ⟨by rfl, rfl⟩)) (GK.drop (by simp)) ?_
    try simp only [Act.put, zA, zB, zC]
    refine tG 14 (undef) (some 55) (GK.grow _) rfl (YieldsIf.toG (Or.inr ⟨by rfl, rfl⟩)) (GK.drop (by simp)) ?_
    try simp only [Act.put, zA, zB, zC]
    refine tG 15 (undef) (some 56) (GK.grow _) rfl (YieldsIf.toG (Or.inr ⟨by rfl, rfl⟩)) (GK.drop (by simp)) ?_
    try simp only [Act.put, zA, zB, zC]
    refine tG 16 (undef) (some 57) (GK.grow _) rfl (YieldsIf.toG (Or.inr ⟨by rfl, rfl⟩)) (GK.drop (by simp)) ?_
    try simp only [Act.put, zA, zB, zC]
    refine tG 17 (undef) (some 58) (GK.grow _) rfl (YieldsIf.toG (Or.inr ⟨by rfl, rfl⟩)) (GK.drop (by simp)) ?_
    try simp only [Act.put, zA, zB, zC]
    refine tG 18 (undef) (some 59) (GK.grow _) rfl (YieldsIf.toG (Or.inr ⟨by rfl, rfl⟩)) (GK.drop (by simp)) ?_
    try simp only [Act.put, zA, zB, zC]
    refine tG 19 (.bool false) (some 60) (GK.grow _) rfl (YieldsIf.toG (Or.inl ⟨by rfl, ?_⟩)) (GK.drop (by simp)) ?_
    ·intro X hX
     clear hX
     go_simp
    try simp only [Act.put, zA, zB, zC]
    refine tG 20 (.bool false) (some 61) (GK.grow _) rfl (YieldsIf.toG (Or.inl ⟨by rfl, ?_⟩)) (GK.drop (by simp)) ?_
    ·intro X hX
     clear hX
     go_simp
    try simp only [Act.put, zA, zB, zC]
    refine tG 21 (.bool false) (some 9) (GK.grow _) rfl (YieldsIf.toG (Or.inl ⟨by rfl, ?_⟩)) (GK.drop (by simp)) ?_
    ·intro X hX
     clear hX
     go_simp
    try simp only [Act.put, zA, zB, zC]
    clear HAL
    refine done_G (by kernel_rfl) (fun X12 hX => ?_) _
    replace NN := Lib.hid (Bgo NN.out hX)
    replace PV := Lib.hid (blk_next hX PV.out)
    replace OX := Lib.hid (OC.next OX.out hX)
    replace CU := Lib.hid (blk_next hX CU.out)
    replace OP := Lib.hid (own_next hX OP.out)
    replace R := Lib.hid (blk_next hX R.out)
    clear hX
    go_wp2_with fail
    go_roundw
    case rel => exact ⟨k + 1, kk, by go_num, by first | rfl | (rw [DK.out]), NN, PV, OX, CU, R⟩
    case measure => simp [intOf]; omega
   ·have df : decide (5 < k) = false := decide_eq_false (by omega)
    have DK : Hid (decide (5 < k + 1) = true) := Lib.hid (decide_eq_true (by omega))
    rw [df]
    have he : c = (⟨0, 1, -5, 1, 5, 1⟩, [(1, 3), (2, 4)]) := by
     rw [h] at hc
     injection hc with hc
     exact hc.symm
    have dn : decide (c.1 = tg) = true := decide_eq_true (by rw [HT.out, he])
    have HP : Hid (c.2 = [(1, 3), (2, 4)]) := Lib.hid (by rw [he])
    clear hlt hk df h he
    have H3 := Lib.hid hun
    have H4 := Lib.hid huc
    clear hun huc hc
    have HDRW := Lib.hid (Below.drew (Below.refl wr.heap.size wr))
    replace NN := Lib.hid (Bgo NN.out HDRW.out)
    replace PV := Lib.hid (blk_next HDRW.out PV.out)
    replace OX := Lib.hid (OC.next OX.out HDRW.out)
    replace CU := Lib.hid (blk_next HDRW.out CU.out)
    replace OP := Lib.hid (own_next HDRW.out OP.out)
    replace R := Lib.hid (blk_next HDRW.out R.out)
    clear HDRW
    have HAL : Hid (∀ kx9 : Nat, GK [(6, gc', .cells cur' 40), (14, gc', .cells cur' 40)] kx9 wr.drew) := Lib.hid (fun kx9 => fun px9 hp e => by
     simp only [List.mem_cons, List.not_mem_nil, or_false] at hp
     rcases hp with rfl | rfl
     ·exact CU.out
     ·exact CU.out
    )
    refine region_G (S := GK [(6, gc', .cells cur' 40), (14, gc', .cells cur' 40)]) (by kernel_rfl) ?_
    refine tG 0 (.bool false) (some 41) (GK.grow _) rfl (YieldsIf.toG (Or.inl ⟨by rfl, ?_⟩)) (GK.drop (by simp)) ?_
    ·intro X hX
     clear hX
     go_simp
    try simp only [Act.put, zA, zB, zC]
    refine tG 1 (.bool false) (some 42) (GK.grow _) rfl (YieldsIf.toG (Or.inl ⟨by rfl, ?_⟩)) (GK.drop (by simp)) ?_
    ·intro X hX
     clear hX
     go_simp
    try simp only [Act.put, zA, zB, zC]
    refine tG 2 (.slice (some ⟨gc', 0, none⟩) 8 c0) (some 43) (GK.grow _) rfl (YieldsIf.toG (Or.inl ⟨by rfl, ?_⟩)) (GK.drop (by simp)) ?_
    ·intro X hX
     clear hX
     go_simp
    try simp only [Act.put, zA, zB, zC]
    refine tG 3 (.int .i64 (k : Int)) (some 44) (GK.grow _) rfl (YieldsIf.toG (Or.inl ⟨by rfl, ?_⟩)) (GK.drop (by simp)) ?_
    ·intro X hX
     clear hX
     go_simp
    try simp only [Act.put, zA, zB, zC]
    refine tG 4 (.pointer (some ⟨gc', k * 7, none⟩)) (some 45) (GK.grow _) rfl (YieldsIf.toG (Or.inl ⟨by rfl, ?_⟩)) (GK.drop (by simp)) ?_
    ·intro X hX
     clear hX
     go_simp
    try simp only [Act.put, zA, zB, zC]
    refine tG 5 (.pointer (some ⟨gc', k * 7, none⟩)) (some 46) (GK.grow _) rfl (YieldsIf.toG (Or.inl ⟨by rfl, ?_⟩)) (GK.drop (by simp)) ?_
    ·intro X hX
     clear hX
     go_simp
    try simp only [Act.put, zA, zB, zC]
    refine tG 6 (.agg #[.int .i64 c.1.x1, .int .i64 c.1.x2, .int .i64 c.1.y1, .int .i64 c.1.y2, .int .i64 c.1.z1, .int .i64 c.1.z2]) (some 47) (GK.grow _) rfl (YieldsIf.toG (Or.inl ⟨by rfl, ?_⟩)) (HAL.out 6) ?_
    ·intro X hX
     have hh := hX (6, gc', .cells cur' 40) (List.Mem.head _) rfl
     have hh0 := CLs.out _ hh 0 _ rfl
     simp only [Nat.add_zero] at hh0
     have hh1 := CLs.out _ hh 1 _ rfl
     have hh2 := CLs.out _ hh 2 _ rfl
     have hh3 := CLs.out _ hh 3 _ rfl
     have hh4 := CLs.out _ hh 4 _ rfl
     have hh5 := CLs.out _ hh 5 _ rfl
     have hhl := blk_lt hh
     clear hh
     clear hX
     go_simp
    try simp only [Act.put, zA, zB, zC]
    have CFn : ∀ (args : Array Value) (W : World), Sem.run Tryz.prog (callFunc 15 args) W = .ok (.enter 15 args) W := fun _ _ => by kernel_rfl
    refine tG 7 (.agg #[.int .i64 tg.x1, .int .i64 tg.x2, .int .i64 tg.y1, .int .i64 tg.y2, .int .i64 tg.z1, .int .i64 tg.z2]) (some 48) (GK.grow _) rfl (yieldsG_call 15 #[.int .i64 0, .int .i64 (-5), .int .i64 5] (by rfl) ?_ (fun X hS => TG.out X)) (GK.drop (by simp)) ?_
    ·intro X hX
     clear hX
     go_simp
    clear CFn
    try simp only [Act.put, zA, zB, zC]
    refine tG 8 (.bool true) (some 49) (GK.grow _) rfl (YieldsIf.toG (Or.inl ⟨by rfl, ?_⟩)) (GK.drop (by simp)) ?_
    ·intro X hX
     clear hX
     go_simp
    try simp only [Act.put, zA, zB, zC]
    refine tG 9 (.bool true) (some 50) (GK.grow _) rfl (YieldsIf.toG (Or.inl ⟨by rfl, ?_⟩)) (GK.drop (by simp)) ?_
    ·intro X hX
     clear hX
     go_simp
    try simp only [Act.put, zA, zB, zC]
    refine tG 10 (.slice (some ⟨gc', 0, none⟩) 8 c0) (some 51) (GK.grow _) rfl (YieldsIf.toG (Or.inl ⟨by rfl, ?_⟩)) (GK.drop (by simp)) ?_
    ·intro X hX
     clear hX
     go_simp
    try simp only [Act.put, zA, zB, zC]
    refine tG 11 (.int .i64 (k : Int)) (some 52) (GK.grow _) rfl (YieldsIf.toG (Or.inl ⟨by rfl, ?_⟩)) (GK.drop (by simp)) ?_
    ·intro X hX
     clear hX
     go_simp
    try simp only [Act.put, zA, zB, zC]
    refine tG 12 (.pointer (some ⟨gc', k * 7, none⟩)) (some 53) (GK.grow _) rfl (YieldsIf.toG (Or.inl ⟨by rfl, ?_⟩)) (GK.drop (by simp)) ?_
    ·intro X hX
     clear hX
     go_simp
    try simp only [Act.put, zA, zB, zC]
    refine tG 13 (.pointer (some ⟨gc', k * 7 + 6, none⟩)) (some 54) (GK.grow _) rfl (YieldsIf.toG (Or.inl ⟨by rfl, ?_⟩)) (GK.drop (by simp)) ?_
    ·intro X hX
     clear hX
     go_simp
    try simp only [Act.put, zA, zB, zC]
    refine tG 14 (.slice Au c.2.length cu) (some 55) (GK.grow _) rfl (YieldsIf.toG (Or.inl ⟨by rfl, ?_⟩)) (HAL.out 14) ?_
    ·intro X hX
     have hh := hX (14, gc', .cells cur' 40) (List.Mem.tail _ (List.Mem.head _)) rfl
     have hh0 := CLs.out _ hh 6 _ rfl
     have hhl := blk_lt hh
     clear hh
     clear hX
     go_simp
    try simp only [Act.put, zA, zB, zC]
    refine tG 15 (.agg #[.int .i64 1, .int .i64 3]) (some 56) (GK.grow _) rfl (YieldsIf.toG (Or.inl ⟨by rfl, ?_⟩)) (GK.drop (by simp)) ?_
    ·intro X hX
     clear hX
     go_simp
    try simp only [Act.put, zA, zB, zC]
    refine tG 16 (.agg #[.int .i64 2, .int .i64 4]) (some 57) (GK.grow _) rfl (YieldsIf.toG (Or.inl ⟨by rfl, ?_⟩)) (GK.drop (by simp)) ?_
    ·intro X hX
     clear hX
     go_simp
    try simp only [Act.put, zA, zB, zC]
    refine only_G 17 (by kernel_rfl) rfl (fun X13 hX K' hK' => ?_)
    replace NN := Lib.hid (Bgo NN.out hX)
    replace PV := Lib.hid (blk_next hX PV.out)
    replace OX := Lib.hid (OC.next OX.out hX)
    replace CU := Lib.hid (blk_next hX CU.out)
    replace OP := Lib.hid (own_next hX OP.out)
    replace R := Lib.hid (blk_next hX R.out)
    replace HAL := Lib.hid (fun kx9 => GK.grow _ _ _ _ (HAL.out kx9) hX)
    clear hX
    go_simp
    refine hK'.out _ _ (fun _ _ h => h.alloc _) ?_
    clear hK' K'
    try simp only [Act.put, zA, zB, zC]
    have HB := Lib.hid (Bal (Below.refl X13.heap.size X13) (.cells #[.int .i64 1, .int .i64 3, .int .i64 2, .int .i64 4] 43))
    have SL : Hid ((X13.alloc (.cells #[.int .i64 1, .int .i64 3, .int .i64 2, .int .i64 4] 43)).heap[X13.heap.size]? = some (.cells #[.int .i64 1, .int .i64 3, .int .i64 2, .int .i64 4] 43)) := Lib.hid (blk_new X13 (.cells #[.int .i64 1, .int .i64 3, .int .i64 2, .int .i64 4] 43))
    replace NN := Lib.hid (Bgo NN.out HB.out)
    replace PV := Lib.hid (blk_next HB.out PV.out)
    replace OX := Lib.hid (OC.next OX.out HB.out)
    replace CU := Lib.hid (blk_next HB.out CU.out)
    replace OP := Lib.hid (own_next HB.out OP.out)
    replace R := Lib.hid (blk_next HB.out R.out)
    replace HAL := Lib.hid (fun kx9 => GK.grow _ _ _ _ (HAL.out kx9) HB.out)
    clear HB
    generalize X13.alloc (.cells #[.int .i64 1, .int .i64 3, .int .i64 2, .int .i64 4] 43) = W14 at *
    generalize X13.heap.size = gSL at *
    refine only_G 18 (by kernel_rfl) rfl (fun X15 hX K' hK' => ?_)
    replace NN := Lib.hid (Bgo NN.out hX)
    replace PV := Lib.hid (blk_next hX PV.out)
    replace OX := Lib.hid (OC.next OX.out hX)
    replace CU := Lib.hid (blk_next hX CU.out)
    replace OP := Lib.hid (own_next hX OP.out)
    replace R := Lib.hid (blk_next hX R.out)
    replace SL := Lib.hid (blk_next hX SL.out)
    replace HAL := Lib.hid (fun kx9 => GK.grow _ _ _ _ (HAL.out kx9) hX)
    clear hX
    go_simp
    refine (sameP_two HP.out (rd_own OP.out) H3.out H4.out SL.out).mono ?_
    rintro e w9 ⟨rfl, hb9⟩
    have HB9 := Lib.hid hb9
    clear hb9
    refine hK'.out _ _ (fun kk hk hS => GK.grow _ _ _ _ hS HB9.out) ?_
    clear hK' K'
    try simp only [Act.put, zA, zB, zC]
    skip
    replace NN := Lib.hid (Bgo NN.out HB9.out)
    replace PV := Lib.hid (blk_next HB9.out PV.out)
    replace OX := Lib.hid (OC.next OX.out HB9.out)
    replace CU := Lib.hid (blk_next HB9.out CU.out)
    replace OP := Lib.hid (own_next HB9.out OP.out)
    replace R := Lib.hid (blk_next HB9.out R.out)
    replace SL := Lib.hid (blk_next HB9.out SL.out)
    replace HAL := Lib.hid (fun kx9 => GK.grow _ _ _ _ (HAL.out kx9) HB9.out)
    clear HB9
    refine tG 19 (.bool true) (some 60) (GK.grow _) rfl (YieldsIf.toG (Or.inl ⟨by rfl, ?_⟩)) (GK.drop (by simp)) ?_
    ·intro X hX
     clear hX
     go_simp
    try simp only [Act.put, zA, zB, zC]
    refine tG 20 (.bool true) (some 61) (GK.grow _) rfl (YieldsIf.toG (Or.inl ⟨by rfl, ?_⟩)) (GK.drop (by simp)) ?_
    ·intro X hX
     clear hX
     go_simp
    try simp only [Act.put, zA, zB, zC]
    refine tG 21 (.bool true) (some 9) (GK.grow _) rfl (YieldsIf.toG (Or.inl ⟨by rfl, ?_⟩)) (GK.drop (by simp)) ?_
    ·intro X hX
     clear hX
     go_simp
    try simp only [Act.put, zA, zB, zC]
    clear HAL
    refine done_G (by kernel_rfl) (fun X16 hX => ?_) _
    replace NN := Lib.hid (Bgo NN.out hX)
    replace PV := Lib.hid (blk_next hX PV.out)
    replace OX := Lib.hid (OC.next OX.out hX)
    replace CU := Lib.hid (blk_next hX CU.out)
    replace OP := Lib.hid (own_next hX OP.out)
    replace R := Lib.hid (blk_next hX R.out)
    replace SL := Lib.hid (blk_next hX SL.out)
    clear hX
    go_wp2_with fail
    go_roundw
    case rel => exact ⟨k + 1, kk, by go_num, by first | rfl | (rw [DK.out]), NN, PV, OX, CU, R⟩
    case measure => simp [intOf]; omega
   ·have df : decide (5 < k) = true := decide_eq_true h
    have DK : Hid (decide (5 < k + 1) = true) := Lib.hid (decide_eq_true (by omega))
    rw [df]
    clear df h hc hlt hk
    have HDRW := Lib.hid (Below.drew (Below.refl wr.heap.size wr))
    replace NN := Lib.hid (Bgo NN.out HDRW.out)
    replace PV := Lib.hid (blk_next HDRW.out PV.out)
    replace OX := Lib.hid (OC.next OX.out HDRW.out)
    replace CU := Lib.hid (blk_next HDRW.out CU.out)
    replace OP := Lib.hid (own_next HDRW.out OP.out)
    replace R := Lib.hid (blk_next HDRW.out R.out)
    clear HDRW
    have HAL : Hid (∀ kx9 : Nat, GK [] kx9 wr.drew) := Lib.hid (fun kx9 => fun px9 hp e => absurd hp (by simp))
    refine region_G (S := GK []) (by kernel_rfl) ?_
    refine tG 0 (.bool true) (some 41) (GK.grow _) rfl (YieldsIf.toG (Or.inl ⟨by rfl, ?_⟩)) (GK.drop (by simp)) ?_
    ·intro X hX
     clear hX
     go_simp
    try simp only [Act.put, zA, zB, zC]
    refine tG 1 (.bool true) (some 42) (GK.grow _) rfl (YieldsIf.toG (Or.inl ⟨by rfl, ?_⟩)) (GK.drop (by simp)) ?_
    ·intro X hX
     clear hX
     go_simp
    try simp only [Act.put, zA, zB, zC]
    refine tG 2 (undef) (some 43) (GK.grow _) rfl (YieldsIf.toG (Or.inr ⟨by rfl, rfl⟩)) (GK.drop (by simp)) ?_
    try simp only [Act.put, zA, zB, zC]
    refine tG 3 (undef) (some 44) (GK.grow _) rfl (YieldsIf.toG (Or.inr ⟨by rfl, rfl⟩)) (GK.drop (by simp)) ?_
    try simp only [Act.put, zA, zB, zC]
    refine tG 4 (undef) (some 45) (GK.grow _) rfl (YieldsIf.toG (Or.inr ⟨by rfl, rfl⟩)) (GK.drop (by simp)) ?_
    try simp only [Act.put, zA, zB, zC]
    refine tG 5 (undef) (some 46) (GK.grow _) rfl (YieldsIf.toG (Or.inr ⟨by rfl, rfl⟩)) (GK.drop (by simp)) ?_
    try simp only [Act.put, zA, zB, zC]
    refine tG 6 (undef) (some 47) (GK.grow _) rfl (YieldsIf.toG (Or.inr ⟨by rfl, rfl⟩)) (GK.drop (by simp)) ?_
    try simp only [Act.put, zA, zB, zC]
    refine tG 7 (undef) (some 48) (GK.grow _) rfl (YieldsIf.toG (Or.inr ⟨by rfl, rfl⟩)) (GK.drop (by simp)) ?_
    try simp only [Act.put, zA, zB, zC]
    refine tG 8 (undef) (some 49) (GK.grow _) rfl (YieldsIf.toG (Or.inr ⟨by rfl, rfl⟩)) (GK.drop (by simp)) ?_
    try simp only [Act.put, zA, zB, zC]
    refine tG 9 (undef) (some 50) (GK.grow _) rfl (YieldsIf.toG (Or.inr ⟨by rfl, rfl⟩)) (GK.drop (by simp)) ?_
    try simp only [Act.put, zA, zB, zC]
    refine tG 10 (undef) (some 51) (GK.grow _) rfl (YieldsIf.toG (Or.inr ⟨by rfl, rfl⟩)) (GK.drop (by simp)) ?_
    try simp only [Act.put, zA, zB, zC]
    refine tG 11 (undef) (some 52) (GK.grow _) rfl (YieldsIf.toG (Or.inr ⟨by rfl, rfl⟩)) (GK.drop (by simp)) ?_
    try simp only [Act.put, zA, zB, zC]
    refine tG 12 (undef) (some 53) (GK.grow _) rfl (YieldsIf.toG (Or.inr ⟨by rfl, rfl⟩)) (GK.drop (by simp)) ?_
    try simp only [Act.put, zA, zB, zC]
    refine tG 13 (undef) (some 54) (GK.grow _) rfl (YieldsIf.toG (Or.inr ⟨by rfl, rfl⟩)) (GK.drop (by simp)) ?_
    try simp only [Act.put, zA, zB, zC]
    refine tG 14 (undef) (some 55) (GK.grow _) rfl (YieldsIf.toG (Or.inr ⟨by rfl, rfl⟩)) (GK.drop (by simp)) ?_
    try simp only [Act.put, zA, zB, zC]
    refine tG 15 (undef) (some 56) (GK.grow _) rfl (YieldsIf.toG (Or.inr ⟨by rfl, rfl⟩)) (GK.drop (by simp)) ?_
    try simp only [Act.put, zA, zB, zC]
    refine tG 16 (undef) (some 57) (GK.grow _) rfl (YieldsIf.toG (Or.inr ⟨by rfl, rfl⟩)) (GK.drop (by simp)) ?_
    try simp only [Act.put, zA, zB, zC]
    refine tG 17 (undef) (some 58) (GK.grow _) rfl (YieldsIf.toG (Or.inr ⟨by rfl, rfl⟩)) (GK.drop (by simp)) ?_
    try simp only [Act.put, zA, zB, zC]
    refine tG 18 (undef) (some 59) (GK.grow _) rfl (YieldsIf.toG (Or.inr ⟨by rfl, rfl⟩)) (GK.drop (by simp)) ?_
    try simp only [Act.put, zA, zB, zC]
    refine tG 19 (undef) (some 60) (GK.grow _) rfl (YieldsIf.toG (Or.inr ⟨by rfl, rfl⟩)) (GK.drop (by simp)) ?_
    try simp only [Act.put, zA, zB, zC]
    refine tG 20 (.bool true) (some 61) (GK.grow _) rfl (YieldsIf.toG (Or.inl ⟨by rfl, ?_⟩)) (GK.drop (by simp)) ?_
    ·intro X hX
     clear hX
     go_simp
    try simp only [Act.put, zA, zB, zC]
    refine tG 21 (.bool true) (some 9) (GK.grow _) rfl (YieldsIf.toG (Or.inl ⟨by rfl, ?_⟩)) (GK.drop (by simp)) ?_
    ·intro X hX
     clear hX
     go_simp
    try simp only [Act.put, zA, zB, zC]
    clear HAL
    refine done_G (by kernel_rfl) (fun X17 hX => ?_) _
    replace NN := Lib.hid (Bgo NN.out hX)
    replace PV := Lib.hid (blk_next hX PV.out)
    replace OX := Lib.hid (OC.next OX.out hX)
    replace CU := Lib.hid (blk_next hX CU.out)
    replace OP := Lib.hid (own_next hX OP.out)
    replace R := Lib.hid (blk_next hX R.out)
    clear hX
    go_wp2_with fail
    go_roundw
    case rel => exact ⟨k + 1, kk, by go_num, by first | rfl | (rw [DK.out]), NN, PV, OX, CU, R⟩
    case measure => simp [intOf]; omega
  ·obtain rfl : k = 8 := by omega
   rw [show decide (5 < 8) = true from rfl]
   go_upto_region 10 with fail
   have HDRW := Lib.hid (Below.drew (Below.refl wr.heap.size wr))
   replace NN := Lib.hid (Bgo NN.out HDRW.out)
   replace PV := Lib.hid (blk_next HDRW.out PV.out)
   replace OX := Lib.hid (OC.next OX.out HDRW.out)
   replace CU := Lib.hid (blk_next HDRW.out CU.out)
   replace R := Lib.hid (blk_next HDRW.out R.out)
   clear HDRW
   have HAL : Hid (∀ kx9 : Nat, GK [(17, gl, .cells #[.int .i64 lv.x1, .int .i64 lv.x2, .int .i64 lv.y1, .int .i64 lv.y2, .int .i64 lv.z1, .int .i64 lv.z2] 38)] kx9 wr.drew) := Lib.hid (fun kx9 => fun px9 hp e => by
    simp only [List.mem_cons, List.not_mem_nil, or_false] at hp
    subst hp
    exact R.out
   )
   refine region_G (S := GK [(17, gl, .cells #[.int .i64 lv.x1, .int .i64 lv.x2, .int .i64 lv.y1, .int .i64 lv.y2, .int .i64 lv.z1, .int .i64 lv.z2] 38)]) (by kernel_rfl) ?_
   refine tG 0 (.int .i64 0) (some 62) (GK.grow _) rfl (YieldsIf.toG (Or.inl ⟨by rfl, ?_⟩)) (GK.drop (by simp)) ?_
   ·intro X hX
    clear hX
    go_simp
   try simp only [Act.put, zA, zB, zC]
   refine tG 1 (.bool true) (some 63) (GK.grow _) rfl (YieldsIf.toG (Or.inl ⟨by rfl, ?_⟩)) (GK.drop (by simp)) ?_
   ·intro X hX
    clear hX
    go_simp
   try simp only [Act.put, zA, zB, zC]
   refine tG 2 (.bool true) (some 64) (GK.grow _) rfl (YieldsIf.toG (Or.inl ⟨by rfl, ?_⟩)) (GK.drop (by simp)) ?_
   ·intro X hX
    clear hX
    go_simp
   try simp only [Act.put, zA, zB, zC]
   refine tG 3 (.slice (some ⟨gp, 0, none⟩) 5 5) (some 65) (GK.grow _) rfl (YieldsIf.toG (Or.inl ⟨by rfl, ?_⟩)) (GK.drop (by simp)) ?_
   ·intro X hX
    clear hX
    go_simp
   try simp only [Act.put, zA, zB, zC]
   have CFn : ∀ (args : Array Value) (W : World), Sem.run Tryz.prog (callFunc 15 args) W = .ok (.enter 15 args) W := fun _ _ => by kernel_rfl
   refine tG 4 (.agg #[.int .i64 5, .int .i64 1, .int .i64 0, .int .i64 1, .int .i64 0, .int .i64 1]) (some 66) (GK.grow _) rfl (yieldsG_call 15 #[.int .i64 5, .int .i64 0, .int .i64 0] (by rfl) ?_ (fun X hS => lof_calls 5 0 0 X)) (GK.drop (by simp)) ?_
   ·intro X hX
    clear hX
    go_simp
   clear CFn
   try simp only [Act.put, zA, zB, zC]
   have CFn : ∀ (args : Array Value) (W : World), Sem.run Tryz.prog (callFunc 15 args) W = .ok (.enter 15 args) W := fun _ _ => by kernel_rfl
   refine tG 5 (.agg #[.int .i64 0, .int .i64 1, .int .i64 5, .int .i64 1, .int .i64 0, .int .i64 1]) (some 67) (GK.grow _) rfl (yieldsG_call 15 #[.int .i64 0, .int .i64 5, .int .i64 0] (by rfl) ?_ (fun X hS => lof_calls 0 5 0 X)) (GK.drop (by simp)) ?_
   ·intro X hX
    clear hX
    go_simp
   clear CFn
   try simp only [Act.put, zA, zB, zC]
   have CFn : ∀ (args : Array Value) (W : World), Sem.run Tryz.prog (callFunc 15 args) W = .ok (.enter 15 args) W := fun _ _ => by kernel_rfl
   refine tG 6 (.agg #[.int .i64 0, .int .i64 1, .int .i64 (-5), .int .i64 1, .int .i64 0, .int .i64 1]) (some 68) (GK.grow _) rfl (yieldsG_call 15 #[.int .i64 0, .int .i64 (-5), .int .i64 0] (by rfl) ?_ (fun X hS => lof_calls 0 (-5) 0 X)) (GK.drop (by simp)) ?_
   ·intro X hX
    clear hX
    go_simp
   clear CFn
   try simp only [Act.put, zA, zB, zC]
   have CFn : ∀ (args : Array Value) (W : World), Sem.run Tryz.prog (callFunc 15 args) W = .ok (.enter 15 args) W := fun _ _ => by kernel_rfl
   refine tG 7 (.agg #[.int .i64 0, .int .i64 1, .int .i64 0, .int .i64 1, .int .i64 5, .int .i64 1]) (some 69) (GK.grow _) rfl (yieldsG_call 15 #[.int .i64 0, .int .i64 0, .int .i64 5] (by rfl) ?_ (fun X hS => lof_calls 0 0 5 X)) (GK.drop (by simp)) ?_
   ·intro X hX
    clear hX
    go_simp
   clear CFn
   try simp only [Act.put, zA, zB, zC]
   have CFn : ∀ (args : Array Value) (W : World), Sem.run Tryz.prog (callFunc 15 args) W = .ok (.enter 15 args) W := fun _ _ => by kernel_rfl
   refine tG 8 (.agg #[.int .i64 0, .int .i64 1, .int .i64 0, .int .i64 1, .int .i64 (-5), .int .i64 1]) (some 70) (GK.grow _) rfl (yieldsG_call 15 #[.int .i64 0, .int .i64 0, .int .i64 (-5)] (by rfl) ?_ (fun X hS => lof_calls 0 0 (-5) X)) (GK.drop (by simp)) ?_
   ·intro X hX
    clear hX
    go_simp
   clear CFn
   try simp only [Act.put, zA, zB, zC]
   refine only_G 9 (by kernel_rfl) rfl (fun X18 hX K' hK' => ?_)
   replace NN := Lib.hid (Bgo NN.out hX)
   replace PV := Lib.hid (blk_next hX PV.out)
   replace OX := Lib.hid (OC.next OX.out hX)
   replace CU := Lib.hid (blk_next hX CU.out)
   replace R := Lib.hid (blk_next hX R.out)
   replace HAL := Lib.hid (fun kx9 => GK.grow _ _ _ _ (HAL.out kx9) hX)
   clear hX
   go_simp
   refine hK'.out _ _ (fun _ _ h => h.alloc _) ?_
   clear hK' K'
   try simp only [Act.put, zA, zB, zC]
   have HB := Lib.hid (Bal (Below.refl X18.heap.size X18) (.cells #[.int .i64 5, .int .i64 1, .int .i64 0, .int .i64 1, .int .i64 0, .int .i64 1, .int .i64 0, .int .i64 1, .int .i64 5, .int .i64 1, .int .i64 0, .int .i64 1, .int .i64 0, .int .i64 1, .int .i64 (-5), .int .i64 1, .int .i64 0, .int .i64 1, .int .i64 0, .int .i64 1, .int .i64 0, .int .i64 1, .int .i64 5, .int .i64 1, .int .i64 0, .int .i64 1, .int .i64 0, .int .i64 1, .int .i64 (-5), .int .i64 1] 38))
   have SL : Hid ((X18.alloc (.cells #[.int .i64 5, .int .i64 1, .int .i64 0, .int .i64 1, .int .i64 0, .int .i64 1, .int .i64 0, .int .i64 1, .int .i64 5, .int .i64 1, .int .i64 0, .int .i64 1, .int .i64 0, .int .i64 1, .int .i64 (-5), .int .i64 1, .int .i64 0, .int .i64 1, .int .i64 0, .int .i64 1, .int .i64 0, .int .i64 1, .int .i64 5, .int .i64 1, .int .i64 0, .int .i64 1, .int .i64 0, .int .i64 1, .int .i64 (-5), .int .i64 1] 38)).heap[X18.heap.size]? = some (.cells #[.int .i64 5, .int .i64 1, .int .i64 0, .int .i64 1, .int .i64 0, .int .i64 1, .int .i64 0, .int .i64 1, .int .i64 5, .int .i64 1, .int .i64 0, .int .i64 1, .int .i64 0, .int .i64 1, .int .i64 (-5), .int .i64 1, .int .i64 0, .int .i64 1, .int .i64 0, .int .i64 1, .int .i64 0, .int .i64 1, .int .i64 5, .int .i64 1, .int .i64 0, .int .i64 1, .int .i64 0, .int .i64 1, .int .i64 (-5), .int .i64 1] 38)) := Lib.hid (blk_new X18 (.cells #[.int .i64 5, .int .i64 1, .int .i64 0, .int .i64 1, .int .i64 0, .int .i64 1, .int .i64 0, .int .i64 1, .int .i64 5, .int .i64 1, .int .i64 0, .int .i64 1, .int .i64 0, .int .i64 1, .int .i64 (-5), .int .i64 1, .int .i64 0, .int .i64 1, .int .i64 0, .int .i64 1, .int .i64 0, .int .i64 1, .int .i64 5, .int .i64 1, .int .i64 0, .int .i64 1, .int .i64 0, .int .i64 1, .int .i64 (-5), .int .i64 1] 38))
   replace NN := Lib.hid (Bgo NN.out HB.out)
   replace PV := Lib.hid (blk_next HB.out PV.out)
   replace OX := Lib.hid (OC.next OX.out HB.out)
   replace CU := Lib.hid (blk_next HB.out CU.out)
   replace R := Lib.hid (blk_next HB.out R.out)
   replace HAL := Lib.hid (fun kx9 => GK.grow _ _ _ _ (HAL.out kx9) HB.out)
   clear HB
   generalize X18.alloc (.cells #[.int .i64 5, .int .i64 1, .int .i64 0, .int .i64 1, .int .i64 0, .int .i64 1, .int .i64 0, .int .i64 1, .int .i64 5, .int .i64 1, .int .i64 0, .int .i64 1, .int .i64 0, .int .i64 1, .int .i64 (-5), .int .i64 1, .int .i64 0, .int .i64 1, .int .i64 0, .int .i64 1, .int .i64 0, .int .i64 1, .int .i64 5, .int .i64 1, .int .i64 0, .int .i64 1, .int .i64 0, .int .i64 1, .int .i64 (-5), .int .i64 1] 38) = W19 at *
   generalize X18.heap.size = gSL at *
   refine only_G 10 (by kernel_rfl) rfl (fun X20 hX K' hK' => ?_)
   replace NN := Lib.hid (Bgo NN.out hX)
   replace PV := Lib.hid (blk_next hX PV.out)
   replace OX := Lib.hid (OC.next OX.out hX)
   replace CU := Lib.hid (blk_next hX CU.out)
   replace R := Lib.hid (blk_next hX R.out)
   replace SL := Lib.hid (blk_next hX SL.out)
   replace HAL := Lib.hid (fun kx9 => GK.grow _ _ _ _ (HAL.out kx9) hX)
   clear hX
   go_simp
   refine (five_same PV.out SL.out).mono ?_
   rintro e w9 ⟨rfl, hb9⟩
   have HB9 := Lib.hid hb9
   clear hb9
   refine hK'.out _ _ (fun kk hk hS => GK.grow _ _ _ _ hS HB9.out) ?_
   clear hK' K'
   try simp only [Act.put, zA, zB, zC]
   skip
   replace NN := Lib.hid (Bgo NN.out HB9.out)
   replace PV := Lib.hid (blk_next HB9.out PV.out)
   replace OX := Lib.hid (OC.next OX.out HB9.out)
   replace CU := Lib.hid (blk_next HB9.out CU.out)
   replace R := Lib.hid (blk_next HB9.out R.out)
   replace SL := Lib.hid (blk_next HB9.out SL.out)
   replace HAL := Lib.hid (fun kx9 => GK.grow _ _ _ _ (HAL.out kx9) HB9.out)
   clear HB9
   refine tG 11 (.bool true) (some 73) (GK.grow _) rfl (YieldsIf.toG (Or.inl ⟨by rfl, ?_⟩)) (GK.drop (by simp)) ?_
   ·intro X hX
    clear hX
    go_simp
   try simp only [Act.put, zA, zB, zC]
   refine tG 12 (.bool true) (some 74) (GK.grow _) rfl (YieldsIf.toG (Or.inl ⟨by rfl, ?_⟩)) (GK.drop (by simp)) ?_
   ·intro X hX
    clear hX
    go_simp
   try simp only [Act.put, zA, zB, zC]
   refine tG 13 (.int .i64 0) (some 75) (GK.grow _) rfl (YieldsIf.toG (Or.inl ⟨by rfl, ?_⟩)) (GK.drop (by simp)) ?_
   ·intro X hX
    clear hX
    go_simp
   try simp only [Act.put, zA, zB, zC]
   refine tG 14 (.bool true) (some 76) (GK.grow _) rfl (YieldsIf.toG (Or.inl ⟨by rfl, ?_⟩)) (GK.drop (by simp)) ?_
   ·intro X hX
    clear hX
    go_simp
   try simp only [Act.put, zA, zB, zC]
   refine tG 15 (.bool true) (some 77) (GK.grow _) rfl (YieldsIf.toG (Or.inl ⟨by rfl, ?_⟩)) (GK.drop (by simp)) ?_
   ·intro X hX
    clear hX
    go_simp
   try simp only [Act.put, zA, zB, zC]
   refine tG 16 (.bool true) (some 78) (GK.grow _) rfl (YieldsIf.toG (Or.inl ⟨by rfl, ?_⟩)) (GK.drop (by simp)) ?_
   ·intro X hX
    clear hX
    go_simp
   try simp only [Act.put, zA, zB, zC]
   refine tG 17 (.agg #[.int .i64 lv.x1, .int .i64 lv.x2, .int .i64 lv.y1, .int .i64 lv.y2, .int .i64 lv.z1, .int .i64 lv.z2]) (some 79) (GK.grow _) rfl (YieldsIf.toG (Or.inl ⟨by rfl, ?_⟩)) (HAL.out 17) ?_
   ·intro X hX
    have hh := hX (17, gl, .cells #[.int .i64 lv.x1, .int .i64 lv.x2, .int .i64 lv.y1, .int .i64 lv.y2, .int .i64 lv.z1, .int .i64 lv.z2] 38) (List.Mem.head _) rfl
    have hh0 := blk_cell hh 0 _ rfl
    have hh1 := blk_cell hh 1 _ rfl
    have hh2 := blk_cell hh 2 _ rfl
    have hh3 := blk_cell hh 3 _ rfl
    have hh4 := blk_cell hh 4 _ rfl
    have hh5 := blk_cell hh 5 _ rfl
    have hhl := blk_lt hh
    clear hh
    clear hX
    go_simp
   try simp only [Act.put, zA, zB, zC]
   have CFn : ∀ (args : Array Value) (W : World), Sem.run Tryz.prog (callFunc 15 args) W = .ok (.enter 15 args) W := fun _ _ => by kernel_rfl
   refine tG 18 (.agg #[.int .i64 lv.x1, .int .i64 lv.x2, .int .i64 lv.y1, .int .i64 lv.y2, .int .i64 lv.z1, .int .i64 lv.z2]) (some 80) (GK.grow _) rfl (yieldsG_call 15 #[.int .i64 (-5), .int .i64 5, .int .i64 0] (by rfl) ?_ (fun X hS => TL.out X)) (GK.drop (by simp)) ?_
   ·intro X hX
    clear hX
    go_simp
   clear CFn
   try simp only [Act.put, zA, zB, zC]
   refine tG 19 (.bool true) (some 81) (GK.grow _) rfl (YieldsIf.toG (Or.inl ⟨by rfl, ?_⟩)) (GK.drop (by simp)) ?_
   ·intro X hX
    clear hX
    go_simp
   try simp only [Act.put, zA, zB, zC]
   refine tG 20 (.bool true) (some 82) (GK.grow _) rfl (YieldsIf.toG (Or.inl ⟨by rfl, ?_⟩)) (GK.drop (by simp)) ?_
   ·intro X hX
    clear hX
    go_simp
   try simp only [Act.put, zA, zB, zC]
   refine tG 21 (.bool true) (some 83) (GK.grow _) rfl (YieldsIf.toG (Or.inl ⟨by rfl, ?_⟩)) (GK.drop (by simp)) ?_
   ·intro X hX
    clear hX
    go_simp
   try simp only [Act.put, zA, zB, zC]
   refine tG 22 (.int .i64 0) (some 84) (GK.grow _) rfl (YieldsIf.toG (Or.inl ⟨by rfl, ?_⟩)) (GK.drop (by simp)) ?_
   ·intro X hX
    clear hX
    go_simp
   try simp only [Act.put, zA, zB, zC]
   refine tG 23 (.bool true) (some 85) (GK.grow _) rfl (YieldsIf.toG (Or.inl ⟨by rfl, ?_⟩)) (GK.drop (by simp)) ?_
   ·intro X hX
    clear hX
    go_simp
   try simp only [Act.put, zA, zB, zC]
   refine tG 24 (.bool true) (some 86) (GK.grow _) rfl (YieldsIf.toG (Or.inl ⟨by rfl, ?_⟩)) (GK.drop (by simp)) ?_
   ·intro X hX
    clear hX
    go_simp
   try simp only [Act.put, zA, zB, zC]
   refine tG 25 (.bool true) (some 87) (GK.grow _) rfl (YieldsIf.toG (Or.inl ⟨by rfl, ?_⟩)) (GK.drop (by simp)) ?_
   ·intro X hX
    clear hX
    go_simp
   try simp only [Act.put, zA, zB, zC]
   refine tG 26 (.bool true) (some 88) (GK.grow _) rfl (YieldsIf.toG (Or.inl ⟨by rfl, ?_⟩)) (GK.drop (by simp)) ?_
   ·intro X hX
    clear hX
    go_simp
   try simp only [Act.put, zA, zB, zC]
   refine tG 27 (.bool true) (some 89) (GK.grow _) rfl (YieldsIf.toG (Or.inl ⟨by rfl, ?_⟩)) (GK.drop (by simp)) ?_
   ·intro X hX
    clear hX
    go_simp
   try simp only [Act.put, zA, zB, zC]
   refine tG 28 (.bool true) (some 90) (GK.grow _) rfl (YieldsIf.toG (Or.inl ⟨by rfl, ?_⟩)) (GK.drop (by simp)) ?_
   ·intro X hX
    clear hX
    go_simp
   try simp only [Act.put, zA, zB, zC]
   refine tG 29 (.int .i64 0) (some 91) (GK.grow _) rfl (YieldsIf.toG (Or.inl ⟨by rfl, ?_⟩)) (GK.drop (by simp)) ?_
   ·intro X hX
    clear hX
    go_simp
   try simp only [Act.put, zA, zB, zC]
   refine tG 30 (.bool true) (some 92) (GK.grow _) rfl (YieldsIf.toG (Or.inl ⟨by rfl, ?_⟩)) (GK.drop (by simp)) ?_
   ·intro X hX
    clear hX
    go_simp
   try simp only [Act.put, zA, zB, zC]
   refine tG 31 (.bool true) (some 93) (GK.grow _) rfl (YieldsIf.toG (Or.inl ⟨by rfl, ?_⟩)) (GK.drop (by simp)) ?_
   ·intro X hX
    clear hX
    go_simp
   try simp only [Act.put, zA, zB, zC]
   refine tG 32 (.bool true) (some 94) (GK.grow _) rfl (YieldsIf.toG (Or.inl ⟨by rfl, ?_⟩)) (GK.drop (by simp)) ?_
   ·intro X hX
    clear hX
    go_simp
   try simp only [Act.put, zA, zB, zC]
   refine tG 33 (.string ⟨#[97, 32, 48, 32, 48, 10, 98, 32, 48, 32, 49, 10]⟩) (some 95) (GK.grow _) rfl (YieldsIf.toG (Or.inl ⟨by rfl, ?_⟩)) (GK.drop (by simp)) ?_
   ·intro X hX
    clear hX
    go_simp
   try simp only [Act.put, zA, zB, zC]
   refine tG 34 (.bool true) (some 96) (GK.grow _) rfl (YieldsIf.toG (Or.inl ⟨by rfl, ?_⟩)) (GK.drop (by simp)) ?_
   ·intro X hX
    clear hX
    go_simp
   try simp only [Act.put, zA, zB, zC]
   refine tG 35 (.bool true) (some 97) (GK.grow _) rfl (YieldsIf.toG (Or.inl ⟨by rfl, ?_⟩)) (GK.drop (by simp)) ?_
   ·intro X hX
    clear hX
    go_simp
   try simp only [Act.put, zA, zB, zC]
   refine tG 36 (.bool true) (some 0) (GK.grow _) rfl (YieldsIf.toG (Or.inl ⟨by rfl, ?_⟩)) (GK.drop (by simp)) ?_
   ·intro X hX
    clear hX
    go_simp
   try simp only [Act.put, zA, zB, zC]
   clear HAL
   refine done_G (by kernel_rfl) (fun X21 hX => ?_) _
   replace NN := Lib.hid (Bgo NN.out hX)
   replace PV := Lib.hid (blk_next hX PV.out)
   replace OX := Lib.hid (OC.next OX.out hX)
   replace CU := Lib.hid (blk_next hX CU.out)
   replace R := Lib.hid (blk_next hX R.out)
   replace SL := Lib.hid (blk_next hX SL.out)
   clear hX
   go_wp2_with fail
   go_ret
   exact ⟨rfl, NN.out⟩
end Go.Proofs.YtfangplfbbgphaaGreatDoor
namespace Go.Proofs.YtfangplfbbgphaaGreatDoor
open Go.ChangeShapes Go.WideShapes Go.ChangeAt Go.RowKit
set_option linter.unusedVariables false
set_option maxRecDepth 100000
set_option linter.unusedSimpArgs false
attribute [local go_sem ↓] Go.wp_at_zero Go.wp_at_succ
attribute [local go_sem ↓] eqVe
theorem eqPr (p q : Nat × Nat) (w : World) : (Op.equalIn 10000 43 (.agg #[.int .i64 (p.1 : Int), .int .i64 (p.2 : Int)]) (.agg #[.int .i64 (q.1 : Int), .int .i64 (q.2 : Int)])).run Tryz.prog w = .ok (decide (p = q)) w := by
 obtain ⟨a1, a2⟩ := p
 obtain ⟨b1, b2⟩ := q
 have uu := Tryz.underlying3
 have ua := Tryz.isAgg3
 have uz := Tryz.sizeOf3
 rw [show (10000 : Nat) = 9999 + 1 from rfl, Op.equalIn]
 simp only [Sem.run_bind, run_underlying Tryz.underlying43, Result.andThen_ok]
 go_simp
 by_cases h1 : (a1 : Int) = (b1 : Int) <;> by_cases h2 : (a2 : Int) = (b2 : Int) <;> simp [h1, h2] <;> omega
attribute [local go_sem ↓] eqPr
theorem aclasses_ok {A B : Int} {a : Option Addr} {c : Nat} {l : List St} {w : World} (h : plE A B l = 0) (hl : RSt w a l) (hc : l.length ≤ c) (hc' : c ≤ 9223372036854775807) (hn : ∀ x ∈ l, x.nm.size ≤ 9223372036854775807) : Calls Tryz.prog 10 #[Gv A B, .slice a l.length c] w fun e w' =>
  ∃ Ak ck hs, e = .returned (.tuple #[.slice Ak (clsL A B l).length ck, .int .i64 0]) ∧ Below w.heap.size w w' ∧ (clsL A B l).length ≤ ck ∧ ck ≤ 9223372036854775807 ∧ OC w.heap.size w' (.slice Ak (clsL A B l).length ck) (clsL A B l) hs := by
 refine (aclasses_calls (A := A) (B := B) hl hc hc' hn).mono ?_
 rintro e w' ⟨v, rfl, hb, -, h2⟩
 rw [h] at h2 ⊢
 obtain ⟨hs, h4⟩ := h2 rfl
 obtain ⟨A0, c0, hv, h5, h6, -⟩ := Rd.of_own h4.row
 subst hv
 exact ⟨A0, c0, hs, rfl, hb, h5, h6, h4⟩
theorem apairs_ok {n : Nat} (h : n < 9) (w : World) : Calls Tryz.prog 11 #[.int .i64 (n : Int)] w fun e w' =>
  ∃ Ax cx, e = .returned (.tuple #[.slice Ax (prs n).length cx, .int .i64 0]) ∧ Below w.heap.size w w' ∧ (prs n).length ≤ cx ∧ cx ≤ 9223372036854775807 ∧ RPr w' Ax (prs n) := by
 have e0 : prE (n : Int) = 0 := by unfold prE; rw [if_neg (by omega)]
 refine (apairs_calls n w).mono ?_
 rintro e w' ⟨v, rfl, hb, h0, h1⟩
 rw [e0] at *
 have h2 := h1 rfl
 rw [Int.toNat_natCast] at h2
 obtain ⟨A1, c1, rfl, h2, h3, h4⟩ := Rd.of_own h2
 exact ⟨A1, c1, rfl, hb, h2, h3, h4⟩
end Go.Proofs.YtfangplfbbgphaaGreatDoor
namespace Go.Proofs.YtfangplfbbgphaaGreatDoor
set_option linter.unusedVariables false
set_option linter.unusedSimpArgs false
def prC (l : List UInt8) : Int × Int × Int := match Lib.cut l [47] with
 | (a, b, f) => match Lib.parseIntB 64 a with
  | .ok n => if f then (match Lib.parseIntB 64 b with
    | .ok d => if okF n d && (textL n d == l) then (n, d, 0) else (0, 0, 12)
    | _ => (0, 0, 12))
   else if okF n 1 && (textL n 1 == l) then (n, 1, 0) else (0, 0, 12)
  | _ => (0, 0, 12)
theorem prC_text {n d : Int} (v : VF n d) : prC (textL n d) = (n, d, 0) := by
 unfold prC
 rw [cut_text]
 simp only [v.itoaN]
 by_cases h : d = 1
 ·subst h
  simp [VF_okF v]
 ·simp only [h, decide_false, Bool.not_false, if_true, if_false]
  simp only [v.itoaD, VF_okF v, beq_self_eq_true, Bool.and_self, if_true]
theorem prC_form (l : List UInt8) : (∃ n d, VF n d ∧ textL n d = l ∧ prC l = (n, d, 0)) ∨ prC l = (0, 0, 12) := by
 have K : ∀ n d, (okF n d && (textL n d == l)) = true → VF n d ∧ textL n d = l := fun n d h => by
  rw [Bool.and_eq_true, beq_iff_eq] at h
  exact ⟨okF_VF h.1, h.2⟩
 unfold prC
 split
 split
 ·rename_i n hn
  split
  ·split
   ·rename_i d hd
    split
    ·rename_i h; exact .inl ⟨n, d, (K n d h).1, (K n d h).2, rfl⟩
    ·exact .inr rfl
   ·exact .inr rfl
  ·split
   ·rename_i h; exact .inl ⟨n, 1, (K n 1 h).1, (K n 1 h).2, rfl⟩
   ·exact .inr rfl
 ·exact .inr rfl
theorem prC_PR (l : List UInt8) : PR l (prC l) := by
 rcases prC_form l with ⟨n, d, v, h, e⟩ | e
 ·rw [e]; exact .inl ⟨rfl, v, h⟩
 ·rw [e]
  refine .inr ⟨rfl, fun n d v h => ?_⟩
  subst h
  rw [prC_text v] at e
  cases e
theorem PR.eq {l : List UInt8} {r : Int × Int × Int} (h : PR l r) : r = prC l := h.unique (prC_PR l)
theorem prC_err (l : List UInt8) : (prC l).2.2 = 0 ∨ prC l = (0, 0, 12) := by
 rcases prC_form l with ⟨n, d, _, _, e⟩ | e
 ·left; rw [e]
 ·exact .inr e
def lineS (l : List UInt8) : Option St :=
 let c := Lib.cut l [32]
 let d := Lib.cut c.2.1 [32]
 let x := prC d.1
 let y := prC d.2.1
 if x.2.2 = 0 ∧ y.2.2 = 0 then
  if valS ⟨⟨c.1.toArray⟩, x.1, x.2.1, y.1, y.2.1⟩ then some ⟨⟨c.1.toArray⟩, x.1, x.2.1, y.1, y.2.1⟩ else none
 else none
def parT : Nat → List St → List UInt8 → Option (List St)
 | 0, _, _ => none
 | f + 1, acc, l => if l.length = 0 then some acc else
  let c := Lib.cut l [10]
  if c.2.2 then (if acc.length = 8 then none else match lineS c.1 with
   | some s => parT f (acc ++ [s]) c.2.1
   | none => none)
  else none
def parA (l : List UInt8) : Option (List St) := parT (l.length + 1) [] l
def parE (l : List UInt8) : Int := if (parA l).isSome then 0 else 12
def parL (l : List UInt8) : List St := (parA l).getD []
theorem cut1_len (l : List UInt8) (c : UInt8) : (Lib.cut l [c]).1.length ≤ l.length ∧ (Lib.cut l [c]).2.1.length ≤ l.length ∧ ((Lib.cut l [c]).2.2 = true → (Lib.cut l [c]).2.1.length < l.length) := by
 cases l with
 | nil => unfold Lib.cut; rw [Lib.index_one]; simp [Lib.indexByte]
 | cons x l =>
  unfold Lib.cut
  split
  ·simp; omega
  ·simp
end Go.Proofs.YtfangplfbbgphaaGreatDoor
namespace Go.Proofs
open Go.Shelf
def Tryz.laysM316_ren : Go.Shelf.Ren := ⟨fun | 316 => 118 | n => n, fun | 9 => 9 | 3 => 3 | 4 => 4 | 37 => 108 | 0 => 0 | 127 => 140 | 5 => 5 | n => n, fun | n => n⟩
theorem Tryz.laysM316 : Go.Proofs.LaysM.n316 Tryz.prog Tryz.laysM316_ren := {
 mixed := by kernel_rfl
 f316 := Tryz.func118.trans (congrArg some (by kernel_rfl))
 t0 := Tryz.underlying0
 a0 := Tryz.isAgg0
 z0 := Tryz.sizeOf0
 v0 := Tryz.zeroValue0
 t3 := Tryz.underlying3
 a3 := Tryz.isAgg3
 z3 := Tryz.sizeOf3
 v3 := Tryz.zeroValue3
 t4 := Tryz.underlying4
 a4 := Tryz.isAgg4
 z4 := Tryz.sizeOf4
 v4 := Tryz.zeroValue4
 t9 := Tryz.underlying9
 a9 := Tryz.isAgg9
 z9 := Tryz.sizeOf9
 v9 := Tryz.zeroValue9
 t37 := Tryz.underlying108
 a37 := Tryz.isAgg108
 z37 := Tryz.sizeOf108
 v37 := Tryz.zeroValue108
 t127 := Tryz.underlying140
 a127 := Tryz.isAgg140
 z127 := Tryz.sizeOf140
 v127 := Tryz.zeroValue140
 t5 := Tryz.underlying5
 a5 := Tryz.isAgg5
 z5 := Tryz.sizeOf5
 v5 := Tryz.zeroValue5
 i0 := by kernel_rfl
 i3 := by kernel_rfl
 i4 := by kernel_rfl
 i5 := by kernel_rfl
 i9 := by kernel_rfl
 i37 := by kernel_rfl
 i127 := by kernel_rfl }
open Go.RowKit in
theorem Tryz.stringslite_Clone (s : ByteArray) (w : World) (hlim : s.size ≤ 281474976710656) :
  Calls Tryz.prog 118 #[.string s] w fun e w' => e = .returned (.string s) ∧ Below w.heap.size w w' := Any.stringslite_Clone Tryz.laysM316 s w hlim
end Go.Proofs
