/- Several texts in one. -/
import Derived.Test.YtbbnkclajpaghaaGreatDoorME14
import Derived.Test.YtbbnkclajpaghaaGreatDoorME18
set_option maxHeartbeats 8000000
set_option maxRecDepth 100000
set_option linter.unusedVariables false
set_option linter.unusedSimpArgs false
namespace Go.Proofs.YtbbnkclajpaghaaGreatDoor
open Go.ChangeShapes Go.WideShapes Go.ChangeAt Go.RowKit
attribute [local go_sem] Oper.semAt_some
theorem sb_string {B b : Nat} {l : List UInt8} {w : World} (h : SB B b (Lib.byteCells l) w) (hBw : B ≤ w.heap.size) : Calls Tryz.prog 31 #[.pointer (some ⟨b, 0, none⟩)] w fun e w' => e = .returned (Str l) ∧ Below B w w' ∧ Lib.OthersKept 5 (some b) w w' := by
 refine (Any.Builder_String_any_k Tryz.lays169 Tryz.Builder_Extra_169 B b l w (h.imp Lib.BuilderAtF.of Lib.BuilderAtF.of) hBw).mono ?_
 rintro e w' ⟨rfl, -, h1, h2⟩
 exact ⟨rfl, h1, h2⟩
theorem sb_len {B b : Nat} {l : List UInt8} {w : World} (h : SB B b (Lib.byteCells l) w) : Calls Tryz.prog 30 #[.pointer (some ⟨b, 0, none⟩)] w fun e w' => e = .returned (.int .i64 (l.length : Nat)) ∧ w' = w := by
 have := Tryz.Builder_Len B b (Lib.byteCells l) w h
 rw [show (Lib.byteCells l).length = l.length by simp [Lib.byteCells]] at this
 exact this
theorem strC (a : List UInt8) : Lib.strCells ⟨a.toArray⟩ = Lib.byteCells a := by rw [Lib.strCells_eq]
theorem bytes_app (a b : List UInt8) : Lib.byteCells (a ++ b) = Lib.byteCells a ++ Lib.byteCells b := by unfold Lib.byteCells; rw [List.map_append]
theorem sb_line {B b : Nat} {a c : List UInt8} {w : World} (h : SB B b (Lib.byteCells a) w) (hl : a.length ≤ 100000) (hc : c.length ≤ 100000) (hB : B ≤ w.heap.size) : Calls Tryz.prog 29 #[.pointer (some ⟨b, 0, none⟩), Str c] w fun e w' =>
  e = .returned (.tuple #[.int .i64 (c.length : Nat), .nilIface]) ∧ SB B b (Lib.byteCells (a ++ c)) w' ∧ Below B w w' ∧ KeepsOthers w w' := by
 have hz : (⟨c.toArray⟩ : ByteArray).size = c.length := by show c.toArray.size = _; simp
 refine (sb_write B b _ ⟨c.toArray⟩ w h (by rw [hz]; simp only [Lib.byteCells, List.length_map]; omega) hB).mono ?_
 rintro e w' ⟨rfl, h1, h2, h3⟩
 rw [hz]
 refine ⟨rfl, ?_, h2, h3⟩
 rw [bytes_app, ← strC c]
 exact h1.sb
theorem txT_app (a b : List Vr) : txT (a ++ b) = txT a ++ txT b := by simp [txT]
theorem txT_pre (t : List Vr) (k : Nat) : (txT (t.take k)).length ≤ (txT t).length := by
 conv => rhs; rw [← List.take_append_drop k t, txT_app, List.length_append]
 omega
theorem txT_next {l : List Vr} {k : Nat} (h : k < l.length) : txT (l.take (k + 1)) = txT (l.take k) ++ (lnL (rowAt l k) ++ [10]) := txT_take (by rw [rowAt_lt h]; exact List.getElem?_eq_getElem h)
theorem ttext_calls {A : Option Addr} {c : Nat} {l : List Vr} {w : World} (hl : RT w A l) (hA : ∀ b off, A = some ⟨b, off, none⟩ → b < w.heap.size) (hc : l.length ≤ c) (hc' : c ≤ 9223372036854775807) (g : GL w) : Calls Tryz.prog 9 #[.slice A l.length c] w fun e w' =>
  e = .returned (.tuple #[Str (txO l), .int .i64 (txE l)]) ∧ Below w.heap.size w w' := by
 have CK : Hid (∀ W : World, Below w.heap.size w W → Calls Tryz.prog 20 #[.slice A l.length c] W fun e w' => e = .returned (.int .i64 (chkE l)) ∧ Below W.heap.size W w') := zh (fun W (hb : Below w.heap.size w W) => chk_calls (w := W) (hl.next hb) (fun b off h => Nat.lt_of_lt_of_le (hA b off h) hb.size) hc hc')
 have GG := zh (fun W (h : Below w.heap.size w W) => g.next h)
 have HL := zh hl
 have HA := zh hA
 have NN := zh (Below.refl w.heap.size w)
 have EX : Hid (txE l = if chkE l ≠ 0 then chkE l else if 20000 < (txT l).length then 4 else 0) := zh rfl
 have OX : Hid (txO l = if txE l = 0 then txT l else []) := zh rfl
 obtain ⟨pe, hpe⟩ : ∃ pe, txE l = pe := ⟨_, rfl⟩
 obtain ⟨po, hpo⟩ : ∃ po, txO l = po := ⟨_, rfl⟩
 rw [hpe] at EX OX ⊢
 rw [hpo] at OX ⊢
 obtain ⟨E, hE⟩ : ∃ E, chkE l = E := ⟨_, rfl⟩
 have HEE := zh hE
 rw [hE] at CK EX
 clear hpe hpo hE hl hA g
 refine (callsIn_wide (n := 0)).1 ?_
 refine callsIn_of_wp_marks Tryz.func9 rfl trivial ?_ rfl
 simp only [Tryz.ntmps9, List.size_toArray, List.length_cons, List.length_nil, Nat.reduceAdd, Nat.reduceSub, Array.replicate_succ, Array.replicate_zero, List.push_toArray, List.append_toArray, List.nil_append, List.cons_append]
 gi_wp2_with fail
 have V2 : Hid (((w.alloc (.cells #[.string ⟨#[]⟩] 9)).alloc (.cells #[.int .i64 0] 24)).heap[w.heap.size]? = some (.cells #[.string ⟨#[]⟩] 9)) := zh (blk_alloc (blk_new w _) _)
 have V3 : Hid (((w.alloc (.cells #[.string ⟨#[]⟩] 9)).alloc (.cells #[.int .i64 0] 24)).heap[w.heap.size + 1]? = some (.cells #[.int .i64 0] 24)) := zh (blk_at _ (by simp))
 replace NN : Hid (Below w.heap.size w ((w.alloc (.cells #[.string ⟨#[]⟩] 9)).alloc (.cells #[.int .i64 0] 24))) := zh (Bal (Bal NN.out _) _)
 generalize ((w.alloc (.cells #[.string ⟨#[]⟩] 9)).alloc (.cells #[.int .i64 0] 24)) = W1 at *
 refine ⟨trivial, rfl, ((callsIn_wide (n := 0)).2 (CK.out _ NN.out)).mono ?_⟩
 rintro e w2 ⟨rfl, hb⟩
 replace NN := zh (Bgo NN.out hb)
 replace V2 := zn hb V2
 replace V3 := zn hb V3
 clear hb
 by_cases h0 : E ≠ 0
 ·have q1 : (E != 0) = true := by simpa using h0
  have HE1 : Hid (pe = E) := zh (by rw [EX.out, if_pos h0])
  have HO1 : Hid (po = []) := zh (by rw [OX.out, HE1.out, if_neg h0])
  clear h0 EX OX
  obtain ⟨c_V2_0, f_V2_0, l_V2⟩ := zfl1 V2
  obtain ⟨c_V3_0, f_V3_0, l_V3⟩ := zfl1 V3
  gi_wp2_with fail
  clear c_V2_0 f_V2_0 l_V2 c_V3_0 f_V3_0 l_V3
  generalize hW : ((w2.setCell ⟨w.heap.size, 0, none⟩ (.string ⟨#[]⟩)).setCell ⟨w.heap.size + 1, 0, none⟩ (.int .i64 E)) = W3 at *
  replace V2 : Hid (W3.heap[w.heap.size]? = some (.cells #[.string ⟨#[]⟩] 9)) := zs hW (blk_set_other (blk_set (V2.out) 0 (.string ⟨#[]⟩)) (by omega) 0 (.int .i64 E))
  replace V3 : Hid (W3.heap[w.heap.size + 1]? = some (.cells #[.int .i64 E] 24)) := zs hW (blk_set (blk_set_other (V3.out) (by omega) 0 (.string ⟨#[]⟩)) 0 (.int .i64 E))
  replace NN := zt hW (p := Below _ _) (Bset1 (Bset1 (NN.out) (by omega) 0 (.string ⟨#[]⟩)) (by omega) 0 (.int .i64 E))
  clear hW
  obtain ⟨c_V2_0, l_V2⟩ := zcl1 V2
  obtain ⟨c_V3_0, l_V3⟩ := zcl1 V3
  exact ⟨.tuple #[Str [], .int .i64 E], by simp [results, Tryz.results9, go_sem, c_V2_0, c_V3_0], ⟨by rw [HE1.out, HO1.out], NN.out⟩⟩
 have h0' : E = 0 := by omega
 subst h0'
 clear h0 CK
 have RB := zh (chk_rows HEE.out)
 have LM := zh (txT_max (t := l) (fun r hr => (chk_rows HEE.out).2 r hr))
 have LN : l.length ≤ 200 := (chk_rows HEE.out).1
 rw [if_neg (by simp)] at EX
 gi_wp2_with fail
 refine ⟨trivial, rfl, (callsIn_wide.2 (rows_calls A _ c _)).mono ?_⟩
 rintro e w9 ⟨rfl, rfl⟩
 gi_wp2_with fail
 have LG : Hid (w.heap.size + 2 ≤ w2.heap.size) := zh (by have := blk_lt V3.out; omega)
 replace NN : Hid (Below w.heap.size w ((w2.alloc (.cells #[.pointer none, .slice none 0 0] 63)).alloc (.cells #[.slice A l.length c] 22))) := zh (Bal (Bal NN.out _) _)
 have SZ : Hid (((w2.alloc (.cells #[.pointer none, .slice none 0 0] 63)).alloc (.cells #[.slice A l.length c] 22)).heap.size = w2.heap.size + 2) := zh (by simp)
 replace V2 : Hid (((w2.alloc (.cells #[.pointer none, .slice none 0 0] 63)).alloc (.cells #[.slice A l.length c] 22)).heap[w.heap.size]? = some (.cells #[.string ⟨#[]⟩] 9)) := zh (blk_alloc (blk_alloc V2.out _) _)
 replace V3 : Hid (((w2.alloc (.cells #[.pointer none, .slice none 0 0] 63)).alloc (.cells #[.slice A l.length c] 22)).heap[w.heap.size + 1]? = some (.cells #[.int .i64 0] 24)) := zh (blk_alloc (blk_alloc V3.out _) _)
 have VB : Hid (((w2.alloc (.cells #[.pointer none, .slice none 0 0] 63)).alloc (.cells #[.slice A l.length c] 22)).heap[w2.heap.size]? = some (.cells #[.pointer none, .slice none 0 0] 63)) := zh (blk_alloc (blk_new w2 _) _)
 have VT : Hid (((w2.alloc (.cells #[.pointer none, .slice none 0 0] 63)).alloc (.cells #[.slice A l.length c] 22)).heap[w2.heap.size + 1]? = some (.cells #[.slice A l.length c] 22)) := zh (blk_at _ (by simp))
 generalize ((w2.alloc (.cells #[.pointer none, .slice none 0 0] 63)).alloc (.cells #[.slice A l.length c] 22)) = W0 at *
 generalize w2.heap.size = g2 at *
 refine range_n 50 #[.pointer (some ⟨g2 + 1, 0, none⟩)] rfl (enters_of Tryz.func50 (by kernel_rfl) rfl) (encR l) w.heap.size l.length
  (rows_seq (HL.out.next NN.out) HA.out (by omega) (by have := SZ.out; have := LG.out; omega) VT.out) (by have := SZ.out; have := LG.out; omega) (fun _ => rfl)
  (fun k W => (W.heap[w.heap.size]? = some (.cells #[.string ⟨#[]⟩] 9)) ∧ (W.heap[w.heap.size + 1]? = some (.cells #[.int .i64 0] 24)) ∧ (Below w.heap.size w W) ∧ (g2 + 2 ≤ W.heap.size) ∧ (SB g2 g2 (Lib.byteCells (txT (l.take k))) W) ∧ ((txT (l.take k)).length ≤ 20000))
  (fun cd k W => ((cd = .ret) ∧ (20000 < (txT l).length) ∧ (W.heap[w.heap.size]? = some (.cells #[.string ⟨#[]⟩] 9)) ∧ (W.heap[w.heap.size + 1]? = some (.cells #[.int .i64 4] 24)) ∧ (Below w.heap.size w W)))
  (fun k a' W => ∃ Bx : Nat, (a' = { tmps := #[.slice A l.length c, undef, .pointer (some ⟨w.heap.size, 0, none⟩), .pointer (some ⟨w.heap.size + 1, 0, none⟩), .int .i64 0, .pointer (some ⟨g2, 0, none⟩), undef, .pointer (some ⟨Bx, 0, none⟩), undef, undef, .slice A l.length c, .int .i64 0, .int .i64 0, .bool false, undef, .slice A l.length c, .func (.func 50) #[] #[.pointer (some ⟨g2 + 1, 0, none⟩)], .int .i64 (k : Int), Rwv (rowAt l k), undef, undef, undef, undef, undef, undef, undef, undef, undef, undef, undef, undef, undef], defers := [] }) ∧ (g2 + 2 ≤ Bx) ∧ (W.heap[Bx]? = some (.cells #[.int .i64 (rowAt l k).t, .int .i64 (rowAt l k).c, .int .i64 (rowAt l k).i, .int .i64 (rowAt l k).j, .int .i64 (rowAt l k).re, .int .i64 (rowAt l k).im, .int .i64 (rowAt l k).dn, .int .i64 (rowAt l k).n] 67)) ∧ (W.heap[w.heap.size]? = some (.cells #[.string ⟨#[]⟩] 9)) ∧ (W.heap[w.heap.size + 1]? = some (.cells #[.int .i64 0] 24)) ∧ (Below w.heap.size w W) ∧ (g2 + 2 ≤ W.heap.size) ∧ (SB g2 g2 (Lib.byteCells (txT (l.take k))) W) ∧ ((txT (l.take k)).length ≤ 20000))
  ((own_blk _ _ _).and ((own_blk _ _ _).and ((ownFrom_below (Nat.le_refl _) (by have := SZ.out; have := LG.out; omega)).and ((own_size _).and ((own_sb _).and (own_pure _))))))
  (fun _ => ((own_pure _).and ((own_pure _).and ((own_blk _ _ _).and ((own_blk _ _ _).and (ownFrom_below (Nat.le_refl _) (by have := SZ.out; have := LG.out; omega)))))))
  (fun _ => own_ex fun _ => ((own_pure _).and ((own_pure _).and ((own_blk _ _ _).and ((own_blk _ _ _).and ((own_blk _ _ _).and ((ownFrom_below (Nat.le_refl _) (by have := SZ.out; have := LG.out; omega)).and ((own_size _).and ((own_sb _).and (own_pure _))))))))))
  ⟨V2.out, V3.out, NN.out, (by have := SZ.out; have := LG.out; omega), (.inl ⟨Nat.le_refl _, _, VB.out, World.ownsRow_nil _ _ _ _, by simp [Value.ownBlock]⟩), by rw [List.take_zero]; exact Nat.zero_le _⟩ ?assign ?body ?done ?stop
 case assign =>
  rintro lp k W K ⟨v2, v3, nn, sz, s9, ln⟩ hlt hK
  gi_wp2
  exact hK _ _ (keeps_of_below (Bal (Below.refl _ _) _)) ((Below.refl _ W).alloc nn.size _) ⟨W.heap.size, rfl, sz, blk_new W _, blk_alloc v2 _, blk_alloc v3 _, Bal nn _, by rw [World.size_alloc]; omega, s9.next (Bal (Below.refl _ _) _), ln⟩
 case body =>
  rintro lp k a' W ⟨Bx, rfl, lx, vx, v2, v3, nn, sz, s9, ln⟩ hlt
  have hz := SZ.out
  have hg := LG.out
  have HT := zh (txT_next hlt)
  have HP := zh (txT_pre l (k + 1))
  have RBk : Hid (rowB (rowAt l k) = true) := zh (RB.out.2 _ (by rw [rowAt_lt hlt]; exact List.getElem_mem hlt))
  have LL := lnL_len RBk.out
  have LC := zh (fun W g => lineOf_calls RBk.out W g)
  have S9 := zh s9
  have SG : Hid (g2 ≤ W.heap.size) := zh (by omega)
  clear s9 RBk
  generalize txT (l.take k) = tx at *
  generalize rowAt l k = s at *
  have NN := zh nn
  have KF := zh (KeepsFrom.refl W0.heap.size W)
  have V2 := zh v2
  have V3 := zh v3
  have VX := zh vx
  clear v2 v3 vx
  obtain ⟨c_VX_0, f_VX_0, c_VX_1, f_VX_1, c_VX_2, f_VX_2, c_VX_3, f_VX_3, c_VX_4, f_VX_4, c_VX_5, f_VX_5, c_VX_6, f_VX_6, c_VX_7, f_VX_7, l_VX⟩ := zfl8 VX
  gi_wp2_with fail
  clear c_VX_0 f_VX_0 c_VX_1 f_VX_1 c_VX_2 f_VX_2 c_VX_3 f_VX_3 c_VX_4 f_VX_4 c_VX_5 f_VX_5 c_VX_6 f_VX_6 c_VX_7 f_VX_7 l_VX
  refine ⟨trivial, rfl, (CallsIn.inRound lp ((callsIn_wide (n := 0)).2 (LC.out _ (GG.out _ NN.out)))).mono ?_⟩
  rintro e w1 ⟨rfl, hb⟩
  replace NN := zh (Bgo NN.out hb)
  replace KF := zh ((KF.out).trans (keeps_of_below hb))
  replace S9 := zh (SB.next S9.out hb)
  replace SG := zh (Nat.le_trans SG.out hb.size)
  replace V2 := zn hb V2
  replace V3 := zn hb V3
  replace VX := zn hb VX
  clear hb
  have HLN : Hid ((lnL s ++ [10]).length ≤ 201) := zh (by rw [List.length_append]; exact Nat.succ_le_succ LL)
  generalize lnL s ++ [10] = li at *
  clear LL LC VX
  gi_wp2_with fail
  refine ⟨trivial, rfl, (CallsIn.inRound lp ((callsIn_wide (n := 0)).2 (sb_line S9.out (by omega) (Nat.le_trans HLN.out (by decide)) SG.out))).mono ?_⟩
  rintro e w9 ⟨rfl, hs9, hb9, hk9⟩
  have S8 := zh hs9
  replace V2 := zh (blk_B hb9 V2.out (by omega))
  replace V3 := zh (blk_B hb9 V3.out (by omega))
  replace KF := zh (KF.out.trans (hk9.from _))
  replace NN := zh (NN.out.trans (hb9.mono (by omega)))
  replace SG := zh (Nat.le_trans SG.out hb9.size)
  clear S9 hs9 hb9 hk9
  rw [← HT.out] at S8
  obtain ⟨ty, hty⟩ : ∃ ty, txT (l.take (k + 1)) = ty := ⟨_, rfl⟩
  rw [hty] at S8 HP
  have HTY := zh hty
  clear hty HT
  generalize li.length = ll at *
  gi_wp2_with fail
  refine ⟨trivial, rfl, (CallsIn.inRound lp ((callsIn_wide (n := 0)).2 (sb_len S8.out))).mono ?_⟩
  rintro e w8 ⟨rfl, rfl⟩
  by_cases hL : 20000 < ty.length
  ·have d1 : decide ((20000 : Int) < (ty.length : Int)) = true := decide_eq_true (by omega)
   have HL9 : 20000 < (txT l).length := by have := HP.out; omega
   clear hL
   obtain ⟨c_V2_0, f_V2_0, l_V2⟩ := zfl1 V2
   obtain ⟨c_V3_0, f_V3_0, l_V3⟩ := zfl1 V3
   gi_wp2_with fail
   clear c_V2_0 f_V2_0 l_V2 c_V3_0 f_V3_0 l_V3
   replace KF := zh (keep_set (keep_set (KF.out) (w.heap.size) 0 (.string ⟨#[]⟩)) (w.heap.size + 1) 0 (.int .i64 4))
   generalize hW : ((w8.setCell ⟨w.heap.size, 0, none⟩ (.string ⟨#[]⟩)).setCell ⟨w.heap.size + 1, 0, none⟩ (.int .i64 4)) = W2 at *
   replace V2 : Hid (W2.heap[w.heap.size]? = some (.cells #[.string ⟨#[]⟩] 9)) := zs hW (blk_set_other (blk_set (V2.out) 0 (.string ⟨#[]⟩)) (by omega) 0 (.int .i64 4))
   replace V3 : Hid (W2.heap[w.heap.size + 1]? = some (.cells #[.int .i64 4] 24)) := zs hW (blk_set (blk_set_other (V3.out) (by omega) 0 (.string ⟨#[]⟩)) 0 (.int .i64 4))
   replace NN := zt hW (p := Below _ _) (Bset1 (Bset1 (NN.out) (by omega) 0 (.string ⟨#[]⟩)) (by omega) 0 (.int .i64 4))
   clear hW
   exact ⟨KF.out, rfl, HL9, V2.out, V3.out, NN.out⟩
  ·have d1 : decide ((20000 : Int) < (ty.length : Int)) = false := decide_eq_false (by omega)
   gi_wp2_with fail
   exact ⟨KF.out, below_mid nn NN.out KF.out.size, V2.out, V3.out, NN.out, by have := KF.out.size; omega, by rw [HTY.out]; exact S8.out, by rw [HTY.out]; omega⟩
 case done =>
  rintro D W hD ⟨v2, v3, nn, sz, s9, ln⟩ hK
  have hz := SZ.out
  have hg := LG.out
  rw [List.take_length] at s9 ln
  have HE1 : Hid (pe = 0) := zh (by rw [EX.out, if_neg (by omega)])
  have HO1 : Hid (po = txT l) := zh (by rw [OX.out, HE1.out, if_pos rfl])
  have HSG : g2 ≤ W.heap.size := by omega
  have S9 := zh s9
  have HK := zh hK
  clear s9 hK EX OX
  generalize txT l = ty at *
  have NN := zh nn
  have V2 := zh v2
  have V3 := zh v3
  clear v2 v3
  gi_wp2_with fail
  refine ⟨trivial, rfl, ((callsIn_wide (n := 0)).2 (sb_string S9.out HSG)).mono ?_⟩
  rintro e w9 ⟨rfl, hb9, hk9⟩
  replace V2 := zh (blk_B hb9 V2.out (by omega))
  replace V3 := zh (blk_B hb9 V3.out (by omega))
  replace NN := zh (NN.out.trans (hb9.mono (by omega)))
  replace HK := zh (hk9 D _ HK.out (by intro h; injection h with h; omega) (fun _ _ h => by cases h))
  clear S9 hb9 hk9
  obtain ⟨c_V2_0, f_V2_0, l_V2⟩ := zfl1 V2
  obtain ⟨c_V3_0, f_V3_0, l_V3⟩ := zfl1 V3
  gi_wp2_with fail
  clear c_V2_0 f_V2_0 l_V2 c_V3_0 f_V3_0 l_V3
  replace HK := zh (blk_set_other (b' := w.heap.size + 1) (blk_set_other (b' := w.heap.size) HK.out (by omega) 0 (Str ty)) (by omega) 0 (.int .i64 0))
  generalize hW : ((w9.setCell ⟨w.heap.size, 0, none⟩ (Str ty)).setCell ⟨w.heap.size + 1, 0, none⟩ (.int .i64 0)) = W1 at *
  replace V2 : Hid (W1.heap[w.heap.size]? = some (.cells #[Str ty] 9)) := zs hW (blk_set_other (blk_set (V2.out) 0 (Str ty)) (by omega) 0 (.int .i64 0))
  replace V3 : Hid (W1.heap[w.heap.size + 1]? = some (.cells #[.int .i64 0] 24)) := zs hW (blk_set (blk_set_other (V3.out) (by omega) 0 (Str ty)) 0 (.int .i64 0))
  replace NN := zt hW (p := Below _ _) (Bset1 (Bset1 (NN.out) (by omega) 0 (Str ty)) (by omega) 0 (.int .i64 0))
  clear hW
  refine ⟨by simp, .inl ⟨_, _, rfl, run_takeDeferred HK.out, ?_⟩⟩
  have e0 := blk_cell (put_blk (D := D) (o' := .deferred none) V2.out (by omega)) 0 (Str ty) rfl
  have e1 := blk_cell (put_blk (D := D) (o' := .deferred none) V3.out (by omega)) 0 (.int .i64 0) rfl
  exact ⟨.tuple #[Str ty, .int .i64 0], by simp [results, Tryz.results9, go_sem, e0, e1], ⟨by rw [HE1.out, HO1.out], put_below NN.out (by omega) (Nat.le_refl _) HK.out⟩⟩
 case stop =>
  rintro D cd k W hD hlt ⟨rfl, hL, v2, v3, nn⟩ hK
  have hDs := SZ.out
  have hg := LG.out
  have HE1 : Hid (pe = 4) := zh (by rw [EX.out, if_pos hL])
  have HO1 : Hid (po = []) := zh (by rw [OX.out, HE1.out, if_neg (by decide)])
  have V2 := zh v2
  have V3 := zh v3
  have NN := zh nn
  have HK := zh hK
  clear EX OX v2 v3 nn hK
  gi_wp2
  refine ⟨by simp, .inl ⟨_, _, rfl, run_takeDeferred HK.out, ?_⟩⟩
  have e0 := blk_cell (put_blk (D := D) (o' := .deferred none) V2.out (by omega)) 0 (Str []) rfl
  have e1 := blk_cell (put_blk (D := D) (o' := .deferred none) V3.out (by omega)) 0 (.int .i64 4) rfl
  exact ⟨.tuple #[Str [], .int .i64 4], by simp [results, Tryz.results9, go_sem, e0, e1], ⟨by rw [HE1.out, HO1.out], put_below NN.out (by omega) (Nat.le_refl _) HK.out⟩⟩
end Go.Proofs.YtbbnkclajpaghaaGreatDoor
