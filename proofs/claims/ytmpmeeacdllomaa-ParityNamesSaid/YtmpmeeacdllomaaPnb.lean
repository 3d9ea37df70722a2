/- The walk of ParityNames. -/
import Derived.Test.YtmpmeeacdllomaaPna
import Derived.Deep.DeepCutAuto
namespace Go.Proofs.Ytmpmeeacdllomaa
open Go.ChangeShapes Go.WideShapes Go.ChangeAt Go.RowKit Gf
set_option linter.unusedVariables false
attribute [local go_sem ↓] Go.wp_at_zero Go.wp_at_succ

set_option maxRecDepth 100000 in
set_option maxHeartbeats 100000000 in
theorem names_walk (w : World) :
    Calls Try.prog 9 #[] w fun e w' => e = .returned (.bool true) ∧ Below w.heap.size w w' := by
  have N : Hid (Below w.heap.size w w) := Lib.hid (Below.refl _ _)
  have mk9 : ∀ W : World, (Instr.makeSlice 29 (.int .i64 9) (.int .i64 9)).run Try.prog W = .ok (.slice (some ⟨W.heap.size, 0, none⟩) 9 9) (W.alloc (.cells (madeCells #[.slice none 0 0] 9) 57)) := fun W => make_rows W 9 (by omega)
  have mk13 : ∀ W : World, (Instr.makeSlice 29 (.int .i64 13) (.int .i64 13)).run Try.prog W = .ok (.slice (some ⟨W.heap.size, 0, none⟩) 13 13) (W.alloc (.cells (madeCells #[.slice none 0 0] 13) 57)) := fun W => make_rows W 13 (by omega)
  have mk3 : ∀ W : World, (Instr.makeSlice 29 (.int .i64 3) (.int .i64 3)).run Try.prog W = .ok (.slice (some ⟨W.heap.size, 0, none⟩) 3 3) (W.alloc (.cells (madeCells #[.slice none 0 0] 3) 57)) := fun W => make_rows W 3 (by omega)
  have mk65 : ∀ W : World, (Instr.makeSlice 57 (.int .i64 65) (.int .i64 65)).run Try.prog W = .ok (.slice (some ⟨W.heap.size, 0, none⟩) 65 65) (W.alloc (.cells (madeCells #[.int .u8 0] 65) 5)) := fun W => make_row W 65 (by omega)
  have mk64 : ∀ W : World, (Instr.makeSlice 57 (.int .i64 64) (.int .i64 64)).run Try.prog W = .ok (.slice (some ⟨W.heap.size, 0, none⟩) 64 64) (W.alloc (.cells (madeCells #[.int .u8 0] 64) 5)) := fun W => make_row W 64 (by omega)
  go_enter Try.func9, Try.ntmps9
  go_wp2_with fail
  refine (cm1 _).mono ?_
  rintro e w_ ⟨rfl, rfl⟩
  go_wp2_with fail
  refine (cm2 _).mono ?_
  rintro e w_ ⟨rfl, rfl⟩
  go_wp2_with fail
  refine (cm3 _).mono ?_
  rintro e w_ ⟨rfl, rfl⟩
  go_wp2_with fail
  refine (cm4 _).mono ?_
  rintro e w_ ⟨rfl, rfl⟩
  go_wp2_with fail
  refine (cm5 _).mono ?_
  rintro e w_ ⟨rfl, rfl⟩
  go_wp2_with fail
  refine (ci1 _).mono ?_
  rintro e w_ ⟨rfl, rfl⟩
  go_wp2_with fail
  refine (ci0 _).mono ?_
  rintro e w_ ⟨rfl, rfl⟩
  have HB : Hid (Below w.heap.size w ((w.alloc (.cells #[.int .u8 5, .int .u8 6] 5)).alloc (.cells #[.slice (some ⟨w.heap.size, 0, none⟩) 2 2] 57))) := Lib.hid (Bal (Bal (Below.refl _ _) _) _)
  replace N := Lib.hid (Bgo N.out HB.out)
  clear HB
  have P1 : Hid (((w.alloc (.cells #[.int .u8 5, .int .u8 6] 5)).alloc (.cells #[.slice (some ⟨w.heap.size, 0, none⟩) 2 2] 57)).heap[w.heap.size]? = some (.cells #[.int .u8 5, .int .u8 6] 5)) := Lib.hid (blk_alloc (blk_new _ _) _)
  have P2 : Hid (((w.alloc (.cells #[.int .u8 5, .int .u8 6] 5)).alloc (.cells #[.slice (some ⟨w.heap.size, 0, none⟩) 2 2] 57)).heap[w.heap.size + 1]? = some (.cells #[.slice (some ⟨w.heap.size, 0, none⟩) 2 2] 57)) := Lib.hid (blk_at _ (by simp))
  go_wp2_with fail
  generalize (w.alloc (.cells #[.int .u8 5, .int .u8 6] 5)).alloc (.cells #[.slice (some ⟨w.heap.size, 0, none⟩) 2 2] 57) = W1 at *
  refine (ce1 _ _ _ (by omega) (by omega) (rma1 [5, 6] P1.out rfl rfl (bytD _ (by decide)) (by decide) P2.out)).mono ?_
  rintro e w1 ⟨v_, rfl, ⟨ua, ow_⟩, hb⟩
  obtain ⟨Aa, ca, rfl, ha1, ha2, hl_⟩ := own_form (show w1.ownsRow W1.heap.size 57 1 v_ 1 ua from ow_.top)
  clear hl_
  have Ra := Lib.hid (ow_.rma.mono (B' := 0) (Nat.zero_le _))
  have HB : Hid (Below W1.heap.size W1 (w1.alloc (.cells #[.int .i64 1, .int .i64 0, .slice Aa 1 ca] 31))) := Lib.hid (Bal hb _)
  replace N := Lib.hid (Bgo N.out HB.out)
  clear HB
  have Va : Hid ((w1.alloc (.cells #[.int .i64 1, .int .i64 0, .slice Aa 1 ca] 31)).heap[w1.heap.size]? = some (.cells #[.int .i64 1, .int .i64 0, .slice Aa 1 ca] 31)) := Lib.hid (blk_new _ _)
  replace Ra := Lib.hid (Ra.out.next (show Below w1.heap.size w1 (w1.alloc (.cells #[.int .i64 1, .int .i64 0, .slice Aa 1 ca] 31)) from (Bal (Below.refl _ _) _)))
  clear ow_ hb
  go_wp2_with fail
  generalize w1.alloc (.cells #[.int .i64 1, .int .i64 0, .slice Aa 1 ca] 31) = W2 at *
  generalize w1.heap.size = z2 at *
  clear P1 P2
  refine (cs1 _ _ _ ha1 ha2 Ra.out).mono ?_
  rintro e w2 ⟨rfl, hb⟩
  have HB : Hid (Below W2.heap.size W2 w2) := Lib.hid hb
  have y_ := blk_next hb Va.out
  have slVa := blk_lt y_
  have sVa0 := blk_cell y_ 0 _ rfl
  have sVa1 := blk_cell y_ 1 _ rfl
  have sVa2 := blk_cell y_ 2 _ rfl
  clear y_
  replace Va := Lib.hid (blk_next HB.out Va.out)
  replace Ra := Lib.hid (Ra.out.next HB.out)
  replace N := Lib.hid (Bgo N.out HB.out)
  clear HB
  clear hb
  go_wp2_with fail
  clear slVa sVa0 sVa1 sVa2
  refine (cf1 _ _ _ ha1 ha2 Ra.out).mono ?_
  rintro e w3 ⟨rfl, hb⟩
  have HB : Hid (Below w2.heap.size w2 (w3.alloc (.cells #[.int .i64 0] 3))) := Lib.hid (Bal hb _)
  have y_ := blk_next hb Va.out
  have slVa := blk_lt y_
  have sVa0 := blk_cell y_ 0 _ rfl
  have sVa1 := blk_cell y_ 1 _ rfl
  have sVa2 := blk_cell y_ 2 _ rfl
  clear y_
  replace Va := Lib.hid (blk_next HB.out Va.out)
  replace Ra := Lib.hid (Ra.out.next HB.out)
  replace N := Lib.hid (Bgo N.out HB.out)
  clear HB
  have P1 : Hid ((w3.alloc (.cells #[.int .i64 0] 3)).heap[w3.heap.size]? = some (.cells #[.int .i64 0] 3)) := Lib.hid (blk_new _ _)
  clear hb
  go_wp2_with fail
  clear slVa sVa0 sVa1 sVa2
  generalize w3.alloc (.cells #[.int .i64 0] 3) = W4 at *
  generalize w3.heap.size = z4 at *
  refine (cl1 _ _ _ _ ha1 ha2 Ra.out (ri_blk [0] P1.out rfl (by decide))).mono ?_
  rintro e w4 ⟨v_, rfl, ⟨ux, ow_⟩, hb⟩
  obtain ⟨Ax, cx, rfl, hx1, hx2, hl_⟩ := own_form (show w4.ownsRow W4.heap.size 57 1 v_ 0 ux from ow_.top)
  clear hl_
  have HB : Hid (Below W4.heap.size W4 (((w4.alloc (.cells #[.int .i64 0, .int .i64 0, .slice Ax 0 cx] 31)).alloc (.cells #[.int .u8 9] 5)).alloc (.cells #[.slice (some ⟨w4.heap.size + 1, 0, none⟩) 1 1] 57))) := Lib.hid (Bal (Bal (Bal hb _) _) _)
  replace Va := Lib.hid (blk_next HB.out Va.out)
  replace Ra := Lib.hid (Ra.out.next HB.out)
  replace N := Lib.hid (Bgo N.out HB.out)
  clear HB
  have P2 : Hid ((((w4.alloc (.cells #[.int .i64 0, .int .i64 0, .slice Ax 0 cx] 31)).alloc (.cells #[.int .u8 9] 5)).alloc (.cells #[.slice (some ⟨w4.heap.size + 1, 0, none⟩) 1 1] 57)).heap[w4.heap.size + 1]? = some (.cells #[.int .u8 9] 5)) := Lib.hid (blk_alloc (blk_at _ (by simp)) _)
  have P3 : Hid ((((w4.alloc (.cells #[.int .i64 0, .int .i64 0, .slice Ax 0 cx] 31)).alloc (.cells #[.int .u8 9] 5)).alloc (.cells #[.slice (some ⟨w4.heap.size + 1, 0, none⟩) 1 1] 57)).heap[w4.heap.size + 1 + 1]? = some (.cells #[.slice (some ⟨w4.heap.size + 1, 0, none⟩) 1 1] 57)) := Lib.hid (blk_at _ (by simp))
  clear ow_ hb
  go_wp2_with fail
  generalize ((w4.alloc (.cells #[.int .i64 0, .int .i64 0, .slice Ax 0 cx] 31)).alloc (.cells #[.int .u8 9] 5)).alloc (.cells #[.slice (some ⟨w4.heap.size + 1, 0, none⟩) 1 1] 57) = W5 at *
  generalize w4.heap.size = z5 at *
  clear hx1 hx2
  clear Va Ra
  clear P1 ha1 ha2
  refine (ce2 _ _ _ (by omega) (by omega) (rma1 [9] P2.out rfl rfl (bytD _ (by decide)) (by decide) P3.out)).mono ?_
  rintro e w5 ⟨v_, rfl, ⟨ub, ow_⟩, hb⟩
  obtain ⟨Ab, cb, rfl, hb1, hb2, hl_⟩ := own_form (show w5.ownsRow W5.heap.size 57 1 v_ 2 ub from ow_.top)
  clear hl_
  have Rb := Lib.hid (ow_.rma.mono (B' := 0) (Nat.zero_le _))
  have HB : Hid (Below W5.heap.size W5 ((w5.alloc (.cells #[.int .i64 1, .int .i64 1, .slice Ab 2 cb] 31)).alloc (.cells (madeCells #[.slice none 0 0] 9) 57))) := Lib.hid (Bal (Bal hb _) _)
  replace N := Lib.hid (Bgo N.out HB.out)
  clear HB
  have Vb : Hid (((w5.alloc (.cells #[.int .i64 1, .int .i64 1, .slice Ab 2 cb] 31)).alloc (.cells (madeCells #[.slice none 0 0] 9) 57)).heap[w5.heap.size]? = some (.cells #[.int .i64 1, .int .i64 1, .slice Ab 2 cb] 31)) := Lib.hid (blk_alloc (blk_new _ _) _)
  have P1 : Hid (((w5.alloc (.cells #[.int .i64 1, .int .i64 1, .slice Ab 2 cb] 31)).alloc (.cells (madeCells #[.slice none 0 0] 9) 57)).heap[w5.heap.size + 1]? = some (.cells (madeCells #[.slice none 0 0] 9) 57)) := Lib.hid (blk_at _ (by simp))
  replace Rb := Lib.hid (Rb.out.next (show Below w5.heap.size w5 ((w5.alloc (.cells #[.int .i64 1, .int .i64 1, .slice Ab 2 cb] 31)).alloc (.cells (madeCells #[.slice none 0 0] 9) 57)) from (Bal (Bal (Below.refl _ _) _) _)))
  clear ow_ hb
  go_wp2_with fail
  generalize (w5.alloc (.cells #[.int .i64 1, .int .i64 1, .slice Ab 2 cb] 31)).alloc (.cells (madeCells #[.slice none 0 0] 9) 57) = W6 at *
  generalize w5.heap.size = z6 at *
  clear P2 P3 mk9
  as_aux_lemma =>
    refine (ce3 _ _ _ (by omega) (by omega) (rma_made P1.out (by omega))).mono ?_
    rintro e w6 ⟨v_, rfl, ⟨ux, ow_⟩, hb⟩
    obtain ⟨Ax, cx, rfl, hx1, hx2, hl_⟩ := own_form (show w6.ownsRow W6.heap.size 57 1 v_ 0 ux from ow_.top)
    clear hl_
    have HB : Hid (Below W6.heap.size W6 (((w6.alloc (.cells #[.int .i64 0, .int .i64 0, .slice Ax 0 cx] 31)).alloc (.cells #[.int .u8 1] 5)).alloc (.cells #[.slice (some ⟨w6.heap.size + 1, 0, none⟩) 1 1] 57))) := Lib.hid (Bal (Bal (Bal hb _) _) _)
    replace Vb := Lib.hid (blk_next HB.out Vb.out)
    replace Rb := Lib.hid (Rb.out.next HB.out)
    replace N := Lib.hid (Bgo N.out HB.out)
    clear HB
    have P2 : Hid ((((w6.alloc (.cells #[.int .i64 0, .int .i64 0, .slice Ax 0 cx] 31)).alloc (.cells #[.int .u8 1] 5)).alloc (.cells #[.slice (some ⟨w6.heap.size + 1, 0, none⟩) 1 1] 57)).heap[w6.heap.size + 1]? = some (.cells #[.int .u8 1] 5)) := Lib.hid (blk_alloc (blk_at _ (by simp)) _)
    have P3 : Hid ((((w6.alloc (.cells #[.int .i64 0, .int .i64 0, .slice Ax 0 cx] 31)).alloc (.cells #[.int .u8 1] 5)).alloc (.cells #[.slice (some ⟨w6.heap.size + 1, 0, none⟩) 1 1] 57)).heap[w6.heap.size + 1 + 1]? = some (.cells #[.slice (some ⟨w6.heap.size + 1, 0, none⟩) 1 1] 57)) := Lib.hid (blk_at _ (by simp))
    clear ow_ hb
    go_wp2_with fail
    generalize ((w6.alloc (.cells #[.int .i64 0, .int .i64 0, .slice Ax 0 cx] 31)).alloc (.cells #[.int .u8 1] 5)).alloc (.cells #[.slice (some ⟨w6.heap.size + 1, 0, none⟩) 1 1] 57) = W7 at *
    generalize w6.heap.size = z7 at *
    clear hx1 hx2
    clear P1
    refine (ce4 _ _ _ (by omega) (by omega) (rma1 [1] P2.out rfl rfl (bytD _ (by decide)) (by decide) P3.out)).mono ?_
    rintro e w7 ⟨v_, rfl, ⟨ux, ow_⟩, hb⟩
    obtain ⟨Ax, cx, rfl, hx1, hx2, hl_⟩ := own_form (show w7.ownsRow W7.heap.size 57 1 v_ 0 ux from ow_.top)
    clear hl_
    have HB : Hid (Below W7.heap.size W7 (((w7.alloc (.cells #[.int .i64 0, .int .i64 0, .slice Ax 0 cx] 31)).alloc (.cells #[.int .u8 1] 5)).alloc (.cells #[.slice (some ⟨w7.heap.size + 1, 0, none⟩) 1 1] 57))) := Lib.hid (Bal (Bal (Bal hb _) _) _)
    replace Vb := Lib.hid (blk_next HB.out Vb.out)
    replace Rb := Lib.hid (Rb.out.next HB.out)
    replace N := Lib.hid (Bgo N.out HB.out)
    clear HB
    have P4 : Hid ((((w7.alloc (.cells #[.int .i64 0, .int .i64 0, .slice Ax 0 cx] 31)).alloc (.cells #[.int .u8 1] 5)).alloc (.cells #[.slice (some ⟨w7.heap.size + 1, 0, none⟩) 1 1] 57)).heap[w7.heap.size + 1]? = some (.cells #[.int .u8 1] 5)) := Lib.hid (blk_alloc (blk_at _ (by simp)) _)
    have P5 : Hid ((((w7.alloc (.cells #[.int .i64 0, .int .i64 0, .slice Ax 0 cx] 31)).alloc (.cells #[.int .u8 1] 5)).alloc (.cells #[.slice (some ⟨w7.heap.size + 1, 0, none⟩) 1 1] 57)).heap[w7.heap.size + 1 + 1]? = some (.cells #[.slice (some ⟨w7.heap.size + 1, 0, none⟩) 1 1] 57)) := Lib.hid (blk_at _ (by simp))
    clear ow_ hb
    go_wp2_with fail
    generalize ((w7.alloc (.cells #[.int .i64 0, .int .i64 0, .slice Ax 0 cx] 31)).alloc (.cells #[.int .u8 1] 5)).alloc (.cells #[.slice (some ⟨w7.heap.size + 1, 0, none⟩) 1 1] 57) = W8 at *
    generalize w7.heap.size = z8 at *
    clear hx1 hx2
    clear P2 P3
    refine (ce5 _ _ _ (by omega) (by omega) (rma1 [1] P4.out rfl rfl (bytD _ (by decide)) (by decide) P5.out)).mono ?_
    rintro e w8 ⟨v_, rfl, ⟨ux, ow_⟩, hb⟩
    obtain ⟨Ax, cx, rfl, hx1, hx2, hl_⟩ := own_form (show w8.ownsRow W8.heap.size 57 1 v_ 0 ux from ow_.top)
    clear hl_
    have HB : Hid (Below W8.heap.size W8 (w8.alloc (.cells #[.int .i64 0, .int .i64 0, .slice Ax 0 cx] 31))) := Lib.hid (Bal hb _)
    replace Vb := Lib.hid (blk_next HB.out Vb.out)
    replace Rb := Lib.hid (Rb.out.next HB.out)
    replace N := Lib.hid (Bgo N.out HB.out)
    clear HB
    clear ow_ hb
    go_wp2_with fail
    generalize w8.alloc (.cells #[.int .i64 0, .int .i64 0, .slice Ax 0 cx] 31) = W9 at *
    generalize w8.heap.size = z9 at *
    clear hx1 hx2
    clear P4 P5
    as_aux_lemma =>
      refine (ce6 _ none 0 (by omega) (by omega) (RMA.nil _ _ _)).mono ?_
      rintro e w9 ⟨v_, rfl, ⟨ux, ow_⟩, hb⟩
      obtain ⟨Ax, cx, rfl, hx1, hx2, hl_⟩ := own_form (show w9.ownsRow W9.heap.size 57 1 v_ 0 ux from ow_.top)
      clear hl_
      have HB : Hid (Below W9.heap.size W9 ((((w9.alloc (.cells #[.int .i64 0, .int .i64 0, .slice Ax 0 cx] 31)).alloc (.cells #[.int .u8 1] 5)).alloc (.cells #[.int .u8 1, .int .u8 2] 5)).alloc (.cells #[.slice (some ⟨w9.heap.size + 1, 0, none⟩) 1 1, .slice (some ⟨w9.heap.size + 1 + 1, 0, none⟩) 2 2] 57))) := Lib.hid (Bal (Bal (Bal (Bal hb _) _) _) _)
      replace Vb := Lib.hid (blk_next HB.out Vb.out)
      replace Rb := Lib.hid (Rb.out.next HB.out)
      replace N := Lib.hid (Bgo N.out HB.out)
      clear HB
      have P1 : Hid (((((w9.alloc (.cells #[.int .i64 0, .int .i64 0, .slice Ax 0 cx] 31)).alloc (.cells #[.int .u8 1] 5)).alloc (.cells #[.int .u8 1, .int .u8 2] 5)).alloc (.cells #[.slice (some ⟨w9.heap.size + 1, 0, none⟩) 1 1, .slice (some ⟨w9.heap.size + 1 + 1, 0, none⟩) 2 2] 57)).heap[w9.heap.size + 1]? = some (.cells #[.int .u8 1] 5)) := Lib.hid (blk_alloc (blk_alloc (blk_at _ (by simp)) _) _)
      have P2 : Hid (((((w9.alloc (.cells #[.int .i64 0, .int .i64 0, .slice Ax 0 cx] 31)).alloc (.cells #[.int .u8 1] 5)).alloc (.cells #[.int .u8 1, .int .u8 2] 5)).alloc (.cells #[.slice (some ⟨w9.heap.size + 1, 0, none⟩) 1 1, .slice (some ⟨w9.heap.size + 1 + 1, 0, none⟩) 2 2] 57)).heap[w9.heap.size + 1 + 1]? = some (.cells #[.int .u8 1, .int .u8 2] 5)) := Lib.hid (blk_alloc (blk_at _ (by simp)) _)
      have P3 : Hid (((((w9.alloc (.cells #[.int .i64 0, .int .i64 0, .slice Ax 0 cx] 31)).alloc (.cells #[.int .u8 1] 5)).alloc (.cells #[.int .u8 1, .int .u8 2] 5)).alloc (.cells #[.slice (some ⟨w9.heap.size + 1, 0, none⟩) 1 1, .slice (some ⟨w9.heap.size + 1 + 1, 0, none⟩) 2 2] 57)).heap[w9.heap.size + 1 + 1 + 1]? = some (.cells #[.slice (some ⟨w9.heap.size + 1, 0, none⟩) 1 1, .slice (some ⟨w9.heap.size + 1 + 1, 0, none⟩) 2 2] 57)) := Lib.hid (blk_at _ (by simp))
      clear ow_ hb
      go_wp2_with fail
      generalize (((w9.alloc (.cells #[.int .i64 0, .int .i64 0, .slice Ax 0 cx] 31)).alloc (.cells #[.int .u8 1] 5)).alloc (.cells #[.int .u8 1, .int .u8 2] 5)).alloc (.cells #[.slice (some ⟨w9.heap.size + 1, 0, none⟩) 1 1, .slice (some ⟨w9.heap.size + 1 + 1, 0, none⟩) 2 2] 57) = W10 at *
      generalize w9.heap.size = z10 at *
      clear hx1 hx2
      refine (ce7 _ _ _ (by omega) (by omega) (rma2 [1] [1, 2] P1.out rfl rfl (bytD _ (by decide)) (by decide) P2.out rfl rfl (bytD _ (by decide)) (by decide) P3.out)).mono ?_
      rintro e w10 ⟨v_, rfl, ⟨ux, ow_⟩, hb⟩
      obtain ⟨Ax, cx, rfl, hx1, hx2, hl_⟩ := own_form (show w10.ownsRow W10.heap.size 57 1 v_ 0 ux from ow_.top)
      clear hl_
      have HB : Hid (Below W10.heap.size W10 (((w10.alloc (.cells #[.int .i64 0, .int .i64 0, .slice Ax 0 cx] 31)).alloc (.cells #[] 5)).alloc (.cells #[.slice (some ⟨w10.heap.size + 1, 0, none⟩) 0 0] 57))) := Lib.hid (Bal (Bal (Bal hb _) _) _)
      replace Vb := Lib.hid (blk_next HB.out Vb.out)
      replace Rb := Lib.hid (Rb.out.next HB.out)
      replace N := Lib.hid (Bgo N.out HB.out)
      clear HB
      have P4 : Hid ((((w10.alloc (.cells #[.int .i64 0, .int .i64 0, .slice Ax 0 cx] 31)).alloc (.cells #[] 5)).alloc (.cells #[.slice (some ⟨w10.heap.size + 1, 0, none⟩) 0 0] 57)).heap[w10.heap.size + 1]? = some (.cells #[] 5)) := Lib.hid (blk_alloc (blk_at _ (by simp)) _)
      have P5 : Hid ((((w10.alloc (.cells #[.int .i64 0, .int .i64 0, .slice Ax 0 cx] 31)).alloc (.cells #[] 5)).alloc (.cells #[.slice (some ⟨w10.heap.size + 1, 0, none⟩) 0 0] 57)).heap[w10.heap.size + 1 + 1]? = some (.cells #[.slice (some ⟨w10.heap.size + 1, 0, none⟩) 0 0] 57)) := Lib.hid (blk_at _ (by simp))
      clear ow_ hb
      go_wp2_with fail
      generalize ((w10.alloc (.cells #[.int .i64 0, .int .i64 0, .slice Ax 0 cx] 31)).alloc (.cells #[] 5)).alloc (.cells #[.slice (some ⟨w10.heap.size + 1, 0, none⟩) 0 0] 57) = W11 at *
      generalize w10.heap.size = z11 at *
      clear hx1 hx2
      clear P1 P2 P3
      refine (ce8 _ _ _ (by omega) (by omega) (rma1 [] P4.out rfl rfl (bytD _ (by decide)) (by decide) P5.out)).mono ?_
      rintro e w11 ⟨v_, rfl, ⟨ux, ow_⟩, hb⟩
      obtain ⟨Ax, cx, rfl, hx1, hx2, hl_⟩ := own_form (show w11.ownsRow W11.heap.size 57 1 v_ 0 ux from ow_.top)
      clear hl_
      have HB : Hid (Below W11.heap.size W11 (((w11.alloc (.cells #[.int .i64 0, .int .i64 0, .slice Ax 0 cx] 31)).alloc (.cells (madeCells #[.int .u8 0] 65) 5)).alloc (.cells #[.slice (some ⟨w11.heap.size + 1, 0, none⟩) 65 65] 57))) := Lib.hid (Bal (Bal (Bal hb _) _) _)
      replace Vb := Lib.hid (blk_next HB.out Vb.out)
      replace Rb := Lib.hid (Rb.out.next HB.out)
      replace N := Lib.hid (Bgo N.out HB.out)
      clear HB
      have P1 : Hid ((((w11.alloc (.cells #[.int .i64 0, .int .i64 0, .slice Ax 0 cx] 31)).alloc (.cells (madeCells #[.int .u8 0] 65) 5)).alloc (.cells #[.slice (some ⟨w11.heap.size + 1, 0, none⟩) 65 65] 57)).heap[w11.heap.size + 1]? = some (.cells (madeCells #[.int .u8 0] 65) 5)) := Lib.hid (blk_alloc (blk_at _ (by simp)) _)
      have P2 : Hid ((((w11.alloc (.cells #[.int .i64 0, .int .i64 0, .slice Ax 0 cx] 31)).alloc (.cells (madeCells #[.int .u8 0] 65) 5)).alloc (.cells #[.slice (some ⟨w11.heap.size + 1, 0, none⟩) 65 65] 57)).heap[w11.heap.size + 1 + 1]? = some (.cells #[.slice (some ⟨w11.heap.size + 1, 0, none⟩) 65 65] 57)) := Lib.hid (blk_at _ (by simp))
      clear ow_ hb
      go_wp2_with fail
      generalize ((w11.alloc (.cells #[.int .i64 0, .int .i64 0, .slice Ax 0 cx] 31)).alloc (.cells (madeCells #[.int .u8 0] 65) 5)).alloc (.cells #[.slice (some ⟨w11.heap.size + 1, 0, none⟩) 65 65] 57) = W12 at *
      generalize w11.heap.size = z12 at *
      clear hx1 hx2
      clear P4 P5 mk65
      refine (ce9 _ _ _ (by omega) (by omega) (rma1 (List.replicate 65 0) P1.out (bv_zero 65) (by simp) (rep_byt 65) (by decide) P2.out)).mono ?_
      rintro e w12 ⟨v_, rfl, ⟨ux, ow_⟩, hb⟩
      obtain ⟨Ax, cx, rfl, hx1, hx2, hl_⟩ := own_form (show w12.ownsRow W12.heap.size 57 1 v_ 0 ux from ow_.top)
      clear hl_
      have HB : Hid (Below W12.heap.size W12 (((w12.alloc (.cells #[.int .i64 0, .int .i64 0, .slice Ax 0 cx] 31)).alloc (.cells (madeCells #[.int .u8 0] 64) 5)).alloc (.cells #[.slice (some ⟨w12.heap.size + 1, 0, none⟩) 64 64] 57))) := Lib.hid (Bal (Bal (Bal hb _) _) _)
      replace Vb := Lib.hid (blk_next HB.out Vb.out)
      replace Rb := Lib.hid (Rb.out.next HB.out)
      replace N := Lib.hid (Bgo N.out HB.out)
      clear HB
      have P3 : Hid ((((w12.alloc (.cells #[.int .i64 0, .int .i64 0, .slice Ax 0 cx] 31)).alloc (.cells (madeCells #[.int .u8 0] 64) 5)).alloc (.cells #[.slice (some ⟨w12.heap.size + 1, 0, none⟩) 64 64] 57)).heap[w12.heap.size + 1]? = some (.cells (madeCells #[.int .u8 0] 64) 5)) := Lib.hid (blk_alloc (blk_at _ (by simp)) _)
      have P4 : Hid ((((w12.alloc (.cells #[.int .i64 0, .int .i64 0, .slice Ax 0 cx] 31)).alloc (.cells (madeCells #[.int .u8 0] 64) 5)).alloc (.cells #[.slice (some ⟨w12.heap.size + 1, 0, none⟩) 64 64] 57)).heap[w12.heap.size + 1 + 1]? = some (.cells #[.slice (some ⟨w12.heap.size + 1, 0, none⟩) 64 64] 57)) := Lib.hid (blk_at _ (by simp))
      clear ow_ hb
      go_wp2_with fail
      generalize ((w12.alloc (.cells #[.int .i64 0, .int .i64 0, .slice Ax 0 cx] 31)).alloc (.cells (madeCells #[.int .u8 0] 64) 5)).alloc (.cells #[.slice (some ⟨w12.heap.size + 1, 0, none⟩) 64 64] 57) = W13 at *
      generalize w12.heap.size = z13 at *
      clear hx1 hx2
      clear P1 P2 mk64
      refine (ce10 _ _ _ (by omega) (by omega) (rma1 (List.replicate 64 0) P3.out (bv_zero 64) (by simp) (rep_byt 64) (by decide) P4.out)).mono ?_
      rintro e w13 ⟨v_, rfl, ⟨uc, ow_⟩, hb⟩
      obtain ⟨Ac, cc, rfl, hc1, hc2, hl_⟩ := own_form (show w13.ownsRow W13.heap.size 57 1 v_ 5 uc from ow_.top)
      clear hl_
      have Rc := Lib.hid (ow_.rma.mono (B' := 0) (Nat.zero_le _))
      have HB : Hid (Below W13.heap.size W13 (w13.alloc (.cells #[.int .i64 1, .int .i64 4, .slice Ac 5 cc] 31))) := Lib.hid (Bal hb _)
      replace Vb := Lib.hid (blk_next HB.out Vb.out)
      replace Rb := Lib.hid (Rb.out.next HB.out)
      replace N := Lib.hid (Bgo N.out HB.out)
      clear HB
      have Vc : Hid ((w13.alloc (.cells #[.int .i64 1, .int .i64 4, .slice Ac 5 cc] 31)).heap[w13.heap.size]? = some (.cells #[.int .i64 1, .int .i64 4, .slice Ac 5 cc] 31)) := Lib.hid (blk_new _ _)
      replace Rc := Lib.hid (Rc.out.next (show Below w13.heap.size w13 (w13.alloc (.cells #[.int .i64 1, .int .i64 4, .slice Ac 5 cc] 31)) from (Bal (Below.refl _ _) _)))
      clear ow_ hb
      go_wp2_with fail
      generalize w13.alloc (.cells #[.int .i64 1, .int .i64 4, .slice Ac 5 cc] 31) = W14 at *
      generalize w13.heap.size = z14 at *
      clear P3 P4
      clear Rc
      as_aux_lemma =>
        refine (given_calls _).mono ?_
        rintro e w14 ⟨v_, rfl, ⟨ud, ow_⟩, hb⟩
        obtain ⟨Ad, cd, rfl, hd1, hd2, hl_⟩ := own_form (show w14.ownsRow W14.heap.size 57 1 v_ 3 ud from ow_.top)
        clear hl_
        have Rd := Lib.hid (ow_.rma.mono (B' := 0) (Nat.zero_le _))
        have HB : Hid (Below W14.heap.size W14 (w14.alloc (.cells #[.int .i64 3] 3))) := Lib.hid (Bal hb _)
        replace Vb := Lib.hid (blk_next HB.out Vb.out)
        replace Vc := Lib.hid (blk_next HB.out Vc.out)
        replace Rb := Lib.hid (Rb.out.next HB.out)
        replace N := Lib.hid (Bgo N.out HB.out)
        clear HB
        have P1 : Hid ((w14.alloc (.cells #[.int .i64 3] 3)).heap[w14.heap.size]? = some (.cells #[.int .i64 3] 3)) := Lib.hid (blk_new _ _)
        replace Rd := Lib.hid (Rd.out.next (show Below w14.heap.size w14 (w14.alloc (.cells #[.int .i64 3] 3)) from (Bal (Below.refl _ _) _)))
        clear ow_ hb
        go_wp2_with fail
        generalize w14.alloc (.cells #[.int .i64 3] 3) = W15 at *
        generalize w14.heap.size = z15 at *
        refine (cl2 _ _ _ _ hd1 hd2 Rd.out (ri_blk [3] P1.out rfl (by decide))).mono ?_
        rintro e w15 ⟨v_, rfl, ⟨ux, ow_⟩, hb⟩
        obtain ⟨Ax, cx, rfl, hx1, hx2, hl_⟩ := own_form (show w15.ownsRow W15.heap.size 57 1 v_ 0 ux from ow_.top)
        clear hl_
        have HB : Hid (Below W15.heap.size W15 (w15.alloc (.cells #[.int .i64 0, .int .i64 0, .slice Ax 0 cx] 31))) := Lib.hid (Bal hb _)
        replace Vb := Lib.hid (blk_next HB.out Vb.out)
        replace Vc := Lib.hid (blk_next HB.out Vc.out)
        replace Rb := Lib.hid (Rb.out.next HB.out)
        replace Rd := Lib.hid (Rd.out.next HB.out)
        replace N := Lib.hid (Bgo N.out HB.out)
        clear HB
        clear ow_ hb
        go_wp2_with fail
        generalize w15.alloc (.cells #[.int .i64 0, .int .i64 0, .slice Ax 0 cx] 31) = W16 at *
        generalize w15.heap.size = z16 at *
        clear hx1 hx2
        clear P1
        clear Rd
        clear hd1 hd2
        refine (given_calls _).mono ?_
        rintro e w16 ⟨v_, rfl, ⟨ue, ow_⟩, hb⟩
        obtain ⟨Ae, ce, rfl, he1, he2, hl_⟩ := own_form (show w16.ownsRow W16.heap.size 57 1 v_ 3 ue from ow_.top)
        clear hl_
        have Re := Lib.hid (ow_.rma.mono (B' := 0) (Nat.zero_le _))
        have HB : Hid (Below W16.heap.size W16 (w16.alloc (.cells #[.int .i64 (-1)] 3))) := Lib.hid (Bal hb _)
        replace Vb := Lib.hid (blk_next HB.out Vb.out)
        replace Vc := Lib.hid (blk_next HB.out Vc.out)
        replace Rb := Lib.hid (Rb.out.next HB.out)
        replace N := Lib.hid (Bgo N.out HB.out)
        clear HB
        have P1 : Hid ((w16.alloc (.cells #[.int .i64 (-1)] 3)).heap[w16.heap.size]? = some (.cells #[.int .i64 (-1)] 3)) := Lib.hid (blk_new _ _)
        replace Re := Lib.hid (Re.out.next (show Below w16.heap.size w16 (w16.alloc (.cells #[.int .i64 (-1)] 3)) from (Bal (Below.refl _ _) _)))
        clear ow_ hb
        go_wp2_with fail
        generalize w16.alloc (.cells #[.int .i64 (-1)] 3) = W17 at *
        generalize w16.heap.size = z17 at *
        refine (cl3 _ _ _ _ he1 he2 Re.out (ri_blk [-1] P1.out rfl (by decide))).mono ?_
        rintro e w17 ⟨v_, rfl, ⟨ux, ow_⟩, hb⟩
        obtain ⟨Ax, cx, rfl, hx1, hx2, hl_⟩ := own_form (show w17.ownsRow W17.heap.size 57 1 v_ 0 ux from ow_.top)
        clear hl_
        have HB : Hid (Below W17.heap.size W17 (w17.alloc (.cells #[.int .i64 0, .int .i64 0, .slice Ax 0 cx] 31))) := Lib.hid (Bal hb _)
        replace Vb := Lib.hid (blk_next HB.out Vb.out)
        replace Vc := Lib.hid (blk_next HB.out Vc.out)
        replace Rb := Lib.hid (Rb.out.next HB.out)
        replace Re := Lib.hid (Re.out.next HB.out)
        replace N := Lib.hid (Bgo N.out HB.out)
        clear HB
        clear ow_ hb
        go_wp2_with fail
        generalize w17.alloc (.cells #[.int .i64 0, .int .i64 0, .slice Ax 0 cx] 31) = W18 at *
        generalize w17.heap.size = z18 at *
        clear hx1 hx2
        clear P1
        clear Re
        clear he1 he2
        refine (given_calls _).mono ?_
        rintro e w18 ⟨v_, rfl, ⟨uf, ow_⟩, hb⟩
        obtain ⟨Af, cf, rfl, hf1, hf2, hl_⟩ := own_form (show w18.ownsRow W18.heap.size 57 1 v_ 3 uf from ow_.top)
        clear hl_
        have Rf := Lib.hid (ow_.rma.mono (B' := 0) (Nat.zero_le _))
        have HB : Hid (Below W18.heap.size W18 (w18.alloc (.cells #[.int .i64 1, .int .i64 1] 3))) := Lib.hid (Bal hb _)
        replace Vb := Lib.hid (blk_next HB.out Vb.out)
        replace Vc := Lib.hid (blk_next HB.out Vc.out)
        replace Rb := Lib.hid (Rb.out.next HB.out)
        replace N := Lib.hid (Bgo N.out HB.out)
        clear HB
        have P1 : Hid ((w18.alloc (.cells #[.int .i64 1, .int .i64 1] 3)).heap[w18.heap.size]? = some (.cells #[.int .i64 1, .int .i64 1] 3)) := Lib.hid (blk_new _ _)
        replace Rf := Lib.hid (Rf.out.next (show Below w18.heap.size w18 (w18.alloc (.cells #[.int .i64 1, .int .i64 1] 3)) from (Bal (Below.refl _ _) _)))
        clear ow_ hb
        go_wp2_with fail
        generalize w18.alloc (.cells #[.int .i64 1, .int .i64 1] 3) = W19 at *
        generalize w18.heap.size = z19 at *
        refine (cl4 _ _ _ _ hf1 hf2 Rf.out (ri_blk [1, 1] P1.out rfl (by decide))).mono ?_
        rintro e w19 ⟨v_, rfl, ⟨ux, ow_⟩, hb⟩
        obtain ⟨Ax, cx, rfl, hx1, hx2, hl_⟩ := own_form (show w19.ownsRow W19.heap.size 57 1 v_ 0 ux from ow_.top)
        clear hl_
        have HB : Hid (Below W19.heap.size W19 (w19.alloc (.cells #[.int .i64 0, .int .i64 0, .slice Ax 0 cx] 31))) := Lib.hid (Bal hb _)
        replace Vb := Lib.hid (blk_next HB.out Vb.out)
        replace Vc := Lib.hid (blk_next HB.out Vc.out)
        replace Rb := Lib.hid (Rb.out.next HB.out)
        replace Rf := Lib.hid (Rf.out.next HB.out)
        replace N := Lib.hid (Bgo N.out HB.out)
        clear HB
        clear ow_ hb
        go_wp2_with fail
        generalize w19.alloc (.cells #[.int .i64 0, .int .i64 0, .slice Ax 0 cx] 31) = W20 at *
        generalize w19.heap.size = z20 at *
        clear hx1 hx2
        clear P1
        clear Rf
        clear hf1 hf2
        refine (given_calls _).mono ?_
        rintro e w20 ⟨v_, rfl, ⟨ug, ow_⟩, hb⟩
        obtain ⟨Ag, cg, rfl, hg1, hg2, hl_⟩ := own_form (show w20.ownsRow W20.heap.size 57 1 v_ 3 ug from ow_.top)
        clear hl_
        have Rg := Lib.hid (ow_.rma.mono (B' := 0) (Nat.zero_le _))
        have HB : Hid (Below W20.heap.size W20 (w20.alloc (.cells #[.int .i64 0, .int .i64 1, .int .i64 2] 3))) := Lib.hid (Bal hb _)
        replace Vb := Lib.hid (blk_next HB.out Vb.out)
        replace Vc := Lib.hid (blk_next HB.out Vc.out)
        replace Rb := Lib.hid (Rb.out.next HB.out)
        replace N := Lib.hid (Bgo N.out HB.out)
        clear HB
        have P1 : Hid ((w20.alloc (.cells #[.int .i64 0, .int .i64 1, .int .i64 2] 3)).heap[w20.heap.size]? = some (.cells #[.int .i64 0, .int .i64 1, .int .i64 2] 3)) := Lib.hid (blk_new _ _)
        replace Rg := Lib.hid (Rg.out.next (show Below w20.heap.size w20 (w20.alloc (.cells #[.int .i64 0, .int .i64 1, .int .i64 2] 3)) from (Bal (Below.refl _ _) _)))
        clear ow_ hb
        go_wp2_with fail
        generalize w20.alloc (.cells #[.int .i64 0, .int .i64 1, .int .i64 2] 3) = W21 at *
        generalize w20.heap.size = z21 at *
        refine (cl5 _ _ _ _ hg1 hg2 Rg.out (ri_blk [0, 1, 2] P1.out rfl (by decide))).mono ?_
        rintro e w21 ⟨v_, rfl, ⟨ux, ow_⟩, hb⟩
        obtain ⟨Ax, cx, rfl, hx1, hx2, hl_⟩ := own_form (show w21.ownsRow W21.heap.size 57 1 v_ 0 ux from ow_.top)
        clear hl_
        have HB : Hid (Below W21.heap.size W21 (w21.alloc (.cells #[.int .i64 0, .int .i64 0, .slice Ax 0 cx] 31))) := Lib.hid (Bal hb _)
        replace Vb := Lib.hid (blk_next HB.out Vb.out)
        replace Vc := Lib.hid (blk_next HB.out Vc.out)
        replace Rb := Lib.hid (Rb.out.next HB.out)
        replace Rg := Lib.hid (Rg.out.next HB.out)
        replace N := Lib.hid (Bgo N.out HB.out)
        clear HB
        clear ow_ hb
        go_wp2_with fail
        generalize w21.alloc (.cells #[.int .i64 0, .int .i64 0, .slice Ax 0 cx] 31) = W22 at *
        generalize w21.heap.size = z22 at *
        clear hx1 hx2
        clear P1
        clear Rg
        clear hg1 hg2
        refine (given_calls _).mono ?_
        rintro e w22 ⟨v_, rfl, ⟨uh, ow_⟩, hb⟩
        obtain ⟨Ah, ch, rfl, hh1, hh2, hl_⟩ := own_form (show w22.ownsRow W22.heap.size 57 1 v_ 3 uh from ow_.top)
        clear hl_
        have Rh := Lib.hid (ow_.rma.mono (B' := 0) (Nat.zero_le _))
        have HB : Hid (Below W22.heap.size W22 (w22.alloc (.cells #[.int .i64 0, .int .i64 2] 3))) := Lib.hid (Bal hb _)
        replace Vb := Lib.hid (blk_next HB.out Vb.out)
        replace Vc := Lib.hid (blk_next HB.out Vc.out)
        replace Rb := Lib.hid (Rb.out.next HB.out)
        replace N := Lib.hid (Bgo N.out HB.out)
        clear HB
        have P1 : Hid ((w22.alloc (.cells #[.int .i64 0, .int .i64 2] 3)).heap[w22.heap.size]? = some (.cells #[.int .i64 0, .int .i64 2] 3)) := Lib.hid (blk_new _ _)
        replace Rh := Lib.hid (Rh.out.next (show Below w22.heap.size w22 (w22.alloc (.cells #[.int .i64 0, .int .i64 2] 3)) from (Bal (Below.refl _ _) _)))
        clear ow_ hb
        go_wp2_with fail
        generalize w22.alloc (.cells #[.int .i64 0, .int .i64 2] 3) = W23 at *
        generalize w22.heap.size = z23 at *
        refine (cl6 _ _ _ _ hh1 hh2 Rh.out (ri_blk [0, 2] P1.out rfl (by decide))).mono ?_
        rintro e w23 ⟨v_, rfl, ⟨ut, ow_⟩, hb⟩
        obtain ⟨At, ct, rfl, ht1, ht2, hl_⟩ := own_form (show w23.ownsRow W23.heap.size 57 1 v_ 3 ut from ow_.top)
        clear hl_
        have Rt := Lib.hid (ow_.rma.mono (B' := 0) (Nat.zero_le _))
        have HB : Hid (Below W23.heap.size W23 (w23.alloc (.cells #[.int .i64 2, .int .i64 1, .slice At 3 ct] 31))) := Lib.hid (Bal hb _)
        replace Vb := Lib.hid (blk_next HB.out Vb.out)
        replace Vc := Lib.hid (blk_next HB.out Vc.out)
        replace Rb := Lib.hid (Rb.out.next HB.out)
        replace Rh := Lib.hid (Rh.out.next HB.out)
        replace N := Lib.hid (Bgo N.out HB.out)
        clear HB
        have Vt : Hid ((w23.alloc (.cells #[.int .i64 2, .int .i64 1, .slice At 3 ct] 31)).heap[w23.heap.size]? = some (.cells #[.int .i64 2, .int .i64 1, .slice At 3 ct] 31)) := Lib.hid (blk_new _ _)
        replace Rt := Lib.hid (Rt.out.next (show Below w23.heap.size w23 (w23.alloc (.cells #[.int .i64 2, .int .i64 1, .slice At 3 ct] 31)) from (Bal (Below.refl _ _) _)))
        clear ow_ hb
        go_wp2_with fail
        generalize w23.alloc (.cells #[.int .i64 2, .int .i64 1, .slice At 3 ct] 31) = W24 at *
        generalize w23.heap.size = z24 at *
        clear P1
        clear Rh
        clear hh1 hh2
        as_aux_lemma =>
          refine (cr1 _ _ _ ht1 ht2 Rt.out).mono ?_
          rintro e w24 ⟨v_, rfl, ⟨ux, ow_⟩, hb⟩
          obtain ⟨Ax, cx, rfl, hx1, hx2, hl_⟩ := own_form (show w24.ownsRow W24.heap.size 57 1 v_ 0 ux from ow_.top)
          clear hl_
          have HB : Hid (Below W24.heap.size W24 (w24.alloc (.cells #[.int .i64 0, .int .i64 0, .slice Ax 0 cx] 31))) := Lib.hid (Bal hb _)
          have y_ := blk_next hb Vt.out
          have slVt := blk_lt y_
          have sVt0 := blk_cell y_ 0 _ rfl
          have sVt1 := blk_cell y_ 1 _ rfl
          have sVt2 := blk_cell y_ 2 _ rfl
          clear y_
          replace Vb := Lib.hid (blk_next HB.out Vb.out)
          replace Vc := Lib.hid (blk_next HB.out Vc.out)
          replace Vt := Lib.hid (blk_next HB.out Vt.out)
          replace Rb := Lib.hid (Rb.out.next HB.out)
          replace Rt := Lib.hid (Rt.out.next HB.out)
          replace N := Lib.hid (Bgo N.out HB.out)
          clear HB
          clear ow_ hb
          go_wp2_with fail
          clear slVt sVt0 sVt1 sVt2
          generalize w24.alloc (.cells #[.int .i64 0, .int .i64 0, .slice Ax 0 cx] 31) = W25 at *
          generalize w24.heap.size = z25 at *
          clear hx1 hx2
          refine (cf2 _ _ _ ht1 ht2 Rt.out).mono ?_
          rintro e w25 ⟨rfl, hb⟩
          have HB : Hid (Below W25.heap.size W25 w25) := Lib.hid hb
          replace Vb := Lib.hid (blk_next HB.out Vb.out)
          replace Vc := Lib.hid (blk_next HB.out Vc.out)
          replace Vt := Lib.hid (blk_next HB.out Vt.out)
          replace Rb := Lib.hid (Rb.out.next HB.out)
          replace Rt := Lib.hid (Rt.out.next HB.out)
          replace N := Lib.hid (Bgo N.out HB.out)
          clear HB
          clear hb
          go_wp2_with fail
          clear Vt Rt
          clear ht1 ht2
          have FRb := Rb
          have FVb := Vb
          have FVc := Vc
          have FN := N
          have BC : Hid (Below w25.heap.size w25 w25) := Lib.hid (Below.refl _ _)
          refine (given_calls _).mono ?_
          rintro e w26 ⟨v_, rfl, ⟨uw, ow_⟩, hb⟩
          obtain ⟨Aw, cw, rfl, hw1, hw2, hl_⟩ := own_form (show w26.ownsRow w25.heap.size 57 1 v_ 3 uw from ow_.top)
          clear hl_
          have Rw := Lib.hid (ow_.rma.mono (B' := 0) (Nat.zero_le _))
          have Xw := Lib.hid ow_
          have hBw : w25.heap.size ≤ w26.heap.size := hb.size
          have HB : Hid (Below w25.heap.size w25 (w26.alloc (.cells #[.int .i64 2, .int .i64 1, .slice Aw 3 cw] 31))) := Lib.hid (Bal hb _)
          replace Vb := Lib.hid (blk_next HB.out Vb.out)
          replace Vc := Lib.hid (blk_next HB.out Vc.out)
          replace Rb := Lib.hid (Rb.out.next HB.out)
          replace BC := Lib.hid (BC.out.trans (HB.out.mono BC.out.size))
          replace N := Lib.hid (Bgo N.out HB.out)
          clear HB
          have Vw : Hid ((w26.alloc (.cells #[.int .i64 2, .int .i64 1, .slice Aw 3 cw] 31)).heap[w26.heap.size]? = some (.cells #[.int .i64 2, .int .i64 1, .slice Aw 3 cw] 31)) := Lib.hid (blk_new _ _)
          replace Rw := Lib.hid (Rw.out.next (show Below w26.heap.size w26 (w26.alloc (.cells #[.int .i64 2, .int .i64 1, .slice Aw 3 cw] 31)) from (Bal (Below.refl _ _) _)))
          replace Xw := Lib.hid (Xw.out.next (show Below w26.heap.size w26 (w26.alloc (.cells #[.int .i64 2, .int .i64 1, .slice Aw 3 cw] 31)) from (Bal (Below.refl _ _) _)))
          clear ow_ hb
          go_upto_region 25 with fail
          generalize w26.alloc (.cells #[.int .i64 2, .int .i64 1, .slice Aw 3 cw] 31) = W27 at *
          generalize w26.heap.size = z27 at *
          obtain ⟨gh, cp, ev, _, hgl⟩ := Xw.out.top.form (by decide)
          replace ev : Value.slice Aw 3 cw = .slice (some ⟨gh, 0, none⟩) 3 cp := ev
          simp only [Value.slice.injEq, true_and] at ev
          obtain ⟨ev, rfl⟩ := ev
          subst ev
          obtain ⟨u1, hu1⟩ := get_some (show 1 < uw.length by rw [Xw.out.len]; decide)
          have hc1 : W27.cell? ⟨gh, 1, none⟩ = some u1 := by rw [Xw.out.top.cellAt 1 (by decide)]; exact hu1
          have hc2 : W27.frozen? ⟨gh, 1, none⟩ = false := Xw.out.top.frozenAt 1
          have hc3 := blk_cell Vw.out 2 _ rfl
          clear hu1
          go_upto_region 26 with fail
          rw [← World.setCell_alloc_past _ _ _ _ hgl]
          have XA : OMx w25.heap.size (W27.alloc (.cells #[.int .u8 3] 5)) (.slice (some ⟨gh, 0, none⟩) ([[1], [2], [123]] : List (List Nat)).length cw) uw [[1], [2], [123]] := Xw.out.next (Bal (Below.refl _ _) _)
          have XS : w25.heap.size ≤ (W27.alloc (.cells #[.int .u8 3] 5)).heap.size := by have := BC.out.size; simp; omega
          have SW := Lib.hid (OMx.swap (k := 1) (n := 1) XA XS [3] (blk_new W27 (.cells #[.int .u8 3] 5)) rfl rfl (bytD _ (by decide)) (by decide) (by decide))
          clear XA XS
          have XB : Hid (Below w25.heap.size w25 ((W27.alloc (.cells #[.int .u8 3] 5)).setCell ⟨gh, 1, none⟩ (.slice (some ⟨W27.heap.size, 0, none⟩) 1 1))) := Lib.hid ((BC.out.alloc BC.out.size _).trans SW.out.2)
          have NE : gh ≠ z27 := fun e => own_ne Xw.out.top Vw.out ne_sl_st (by rw [e]; rfl)
          replace Vw : Hid (((W27.alloc (.cells #[.int .u8 3] 5)).setCell ⟨gh, 1, none⟩ (.slice (some ⟨W27.heap.size, 0, none⟩) 1 1)).heap[z27]? = some (.cells #[.int .i64 2, .int .i64 1, .slice (some ⟨gh, 0, none⟩) 3 cw] 31)) := Lib.hid (blk_set_other (blk_alloc Vw.out _) NE 1 _)
          replace Vb := Lib.hid (blk_next XB.out FVb.out)
          replace Vc := Lib.hid (blk_next XB.out FVc.out)
          replace Rb := Lib.hid (FRb.out.next XB.out)
          replace N := Lib.hid (Bgo FN.out XB.out)
          replace Rw : Hid (RMA 0 ((W27.alloc (.cells #[.int .u8 3] 5)).setCell ⟨gh, 1, none⟩ (.slice (some ⟨W27.heap.size, 0, none⟩) 1 1)) (some ⟨gh, 0, none⟩) [[1], [3], [123]]) := Lib.hid SW.out.1
          clear SW XB FVb FVc FRb FN BC Xw hc1 hc2 hc3 NE hBw hgl
          generalize (W27.alloc (.cells #[.int .u8 3] 5)).setCell ⟨gh, 1, none⟩ (.slice (some ⟨W27.heap.size, 0, none⟩) 1 1) = W28 at *
          as_aux_lemma =>
            have slVw := blk_lt Vw.out
            have sVw0 := blk_cell Vw.out 0 _ rfl
            have sVw1 := blk_cell Vw.out 1 _ rfl
            have sVw2 := blk_cell Vw.out 2 _ rfl
            go_wp2_with fail
            clear slVw sVw0 sVw1 sVw2
            refine (cr2 _ _ _ hw1 hw2 Rw.out).mono ?_
            rintro e w27 ⟨v_, rfl, ⟨ux, ow_⟩, hb⟩
            obtain ⟨Ax, cx, rfl, hx1, hx2, hl_⟩ := own_form (show w27.ownsRow W28.heap.size 57 1 v_ 0 ux from ow_.top)
            clear hl_
            have HB : Hid (Below W28.heap.size W28 (w27.alloc (.cells #[.int .i64 0, .int .i64 0, .slice Ax 0 cx] 31))) := Lib.hid (Bal hb _)
            have y_ := blk_next hb Vw.out
            have slVw := blk_lt y_
            have sVw0 := blk_cell y_ 0 _ rfl
            have sVw1 := blk_cell y_ 1 _ rfl
            have sVw2 := blk_cell y_ 2 _ rfl
            clear y_
            replace Vb := Lib.hid (blk_next HB.out Vb.out)
            replace Vc := Lib.hid (blk_next HB.out Vc.out)
            replace Vw := Lib.hid (blk_next HB.out Vw.out)
            replace Rb := Lib.hid (Rb.out.next HB.out)
            replace Rw := Lib.hid (Rw.out.next HB.out)
            replace N := Lib.hid (Bgo N.out HB.out)
            clear HB
            clear ow_ hb
            go_wp2_with fail
            clear slVw sVw0 sVw1 sVw2
            generalize w27.alloc (.cells #[.int .i64 0, .int .i64 0, .slice Ax 0 cx] 31) = W28 at *
            generalize w27.heap.size = z28 at *
            clear hx1 hx2
            refine (cf3 _ _ _ hw1 hw2 Rw.out).mono ?_
            rintro e w28 ⟨rfl, hb⟩
            have HB : Hid (Below W28.heap.size W28 w28) := Lib.hid hb
            replace Vb := Lib.hid (blk_next HB.out Vb.out)
            replace Vc := Lib.hid (blk_next HB.out Vc.out)
            replace Vw := Lib.hid (blk_next HB.out Vw.out)
            replace Rb := Lib.hid (Rb.out.next HB.out)
            replace Rw := Lib.hid (Rw.out.next HB.out)
            replace N := Lib.hid (Bgo N.out HB.out)
            clear HB
            clear hb
            skip
            clear Vw Rw
            clear hw1 hw2
            as_aux_lemma =>
              have slVb := blk_lt Vb.out
              have sVb2 := blk_cell Vb.out 2 _ rfl
              have slVc := blk_lt Vc.out
              have sVc2 := blk_cell Vc.out 2 _ rfl
              obtain ⟨b1, o1, A1, c1, rfl, hb5, h1, h2, h3, h4⟩ := Rb.out.at_ (i := 1) (l := [9]) rfl
              obtain ⟨b2, o2, rfl, hb6, h5, _⟩ := h4.at_ (k := 0) (x := 9) rfl
              replace h1 : w28.cell? ⟨b1, o1 + 1, none⟩ = some (.slice (some ⟨b2, o2, none⟩) 1 c1) := h1
              replace h5 : w28.cell? ⟨b2, o2, none⟩ = some (.int .u8 9) := h5
              clear h4
              go_wp2_with fail
              clear slVb sVb2 slVc sVc2 h1 h2 h3 h5 hb5 hb6
              clear Vb Vc Rb
              as_aux_lemma =>
                refine (given_calls _).mono ?_
                rintro e w29 ⟨v_, rfl, ⟨up, ow_⟩, hb⟩
                obtain ⟨Ap, cp, rfl, hp1, hp2, hl_⟩ := own_form (show w29.ownsRow w28.heap.size 57 1 v_ 3 up from ow_.top)
                clear hl_
                have HB : Hid (Below w28.heap.size w28 w29) := Lib.hid hb
                replace N := Lib.hid (Bgo N.out HB.out)
                clear HB
                clear ow_ hb
                go_wp2_with fail
                clear hp1 hp2
                refine (given_calls _).mono ?_
                rintro e w30 ⟨v_, rfl, ⟨uq, ow_⟩, hb⟩
                obtain ⟨Aq, cq, rfl, hq1, hq2, hl_⟩ := own_form (show w30.ownsRow w29.heap.size 57 1 v_ 3 uq from ow_.top)
                clear hl_
                have Rq := Lib.hid (ow_.rma.mono (B' := 0) (Nat.zero_le _))
                have HB : Hid (Below w29.heap.size w29 w30) := Lib.hid hb
                replace N := Lib.hid (Bgo N.out HB.out)
                clear HB
                clear ow_ hb
                go_wp2_with fail
                have FRq := Rq
                have FN := N
                have BC : Hid (Below w30.heap.size w30 w30) := Lib.hid (Below.refl _ _)
                clear Rq
                refine (given_calls _).mono ?_
                rintro e w31 ⟨v_, rfl, ⟨ur, ow_⟩, hb⟩
                obtain ⟨Ar, cr, rfl, hr1, hr2, hl_⟩ := own_form (show w31.ownsRow w30.heap.size 57 1 v_ 3 ur from ow_.top)
                clear hl_
                have Rr := Lib.hid (ow_.rma.mono (B' := 0) (Nat.zero_le _))
                have Xr := Lib.hid ow_
                have hBr : w30.heap.size ≤ w31.heap.size := hb.size
                have HB : Hid (Below w30.heap.size w30 w31) := Lib.hid hb
                replace BC := Lib.hid (BC.out.trans (HB.out.mono BC.out.size))
                replace N := Lib.hid (Bgo N.out HB.out)
                clear HB
                clear ow_ hb
                go_wp2_with fail
                clear Rr
                obtain ⟨gr, cp, ev, hgB, hgl⟩ := Xr.out.top.form (by decide)
                replace ev : Value.slice Ar 3 cr = .slice (some ⟨gr, 0, none⟩) 3 cp := ev
                simp only [Value.slice.injEq, true_and] at ev
                obtain ⟨ev, rfl⟩ := ev
                subst ev
                refine (given_calls _).mono ?_
                rintro e w32 ⟨v_, rfl, ⟨us, ow_⟩, hb⟩
                obtain ⟨As, cs, rfl, hs1, hs2, hl_⟩ := own_form (show w32.ownsRow w31.heap.size 57 1 v_ 3 us from ow_.top)
                clear hl_
                have hb_ : w30.heap.size ≤ w32.heap.size := Nat.le_trans BC.out.size hb.size
                have hz_ : w31.heap.size ≤ w32.heap.size := hb.size
                have hlt : gr < w32.heap.size := Nat.lt_of_lt_of_le hgl hz_
                clear hz_
                have HB : Hid (Below w31.heap.size w31 (((((w32.alloc (.cells #[.int .i64 2, .int .i64 1, .slice (some ⟨w32.heap.size + 1 + 1 + 1 + 1, 0, none⟩) 13 13] 31)).alloc (.cells #[.int .i64 2, .int .i64 1, .slice Aq 3 cq] 31)).alloc (.cells #[.int .i64 2, .int .i64 1, .slice (some ⟨gr, 0, none⟩) 3 cr] 31)).alloc (.cells #[.int .i64 2, .int .i64 1, .slice As 3 cs] 31)).alloc (.cells (madeCells #[.slice none 0 0] 13) 57))) := Lib.hid (Bal (Bal (Bal (Bal (Bal hb _) _) _) _) _)
                replace Xr := Lib.hid (Xr.out.next HB.out)
                replace BC := Lib.hid (BC.out.trans (HB.out.mono BC.out.size))
                replace N := Lib.hid (Bgo N.out HB.out)
                clear HB
                have VP : Hid ((((((w32.alloc (.cells #[.int .i64 2, .int .i64 1, .slice (some ⟨w32.heap.size + 1 + 1 + 1 + 1, 0, none⟩) 13 13] 31)).alloc (.cells #[.int .i64 2, .int .i64 1, .slice Aq 3 cq] 31)).alloc (.cells #[.int .i64 2, .int .i64 1, .slice (some ⟨gr, 0, none⟩) 3 cr] 31)).alloc (.cells #[.int .i64 2, .int .i64 1, .slice As 3 cs] 31)).alloc (.cells (madeCells #[.slice none 0 0] 13) 57)).heap[w32.heap.size]? = some (.cells #[.int .i64 2, .int .i64 1, .slice (some ⟨w32.heap.size + 1 + 1 + 1 + 1, 0, none⟩) 13 13] 31)) := Lib.hid (blk_alloc (blk_alloc (blk_alloc (blk_alloc (blk_new _ _) _) _) _) _)
                have VQ : Hid ((((((w32.alloc (.cells #[.int .i64 2, .int .i64 1, .slice (some ⟨w32.heap.size + 1 + 1 + 1 + 1, 0, none⟩) 13 13] 31)).alloc (.cells #[.int .i64 2, .int .i64 1, .slice Aq 3 cq] 31)).alloc (.cells #[.int .i64 2, .int .i64 1, .slice (some ⟨gr, 0, none⟩) 3 cr] 31)).alloc (.cells #[.int .i64 2, .int .i64 1, .slice As 3 cs] 31)).alloc (.cells (madeCells #[.slice none 0 0] 13) 57)).heap[w32.heap.size + 1]? = some (.cells #[.int .i64 2, .int .i64 1, .slice Aq 3 cq] 31)) := Lib.hid (blk_alloc (blk_alloc (blk_alloc (blk_at _ (by simp)) _) _) _)
                have VR : Hid ((((((w32.alloc (.cells #[.int .i64 2, .int .i64 1, .slice (some ⟨w32.heap.size + 1 + 1 + 1 + 1, 0, none⟩) 13 13] 31)).alloc (.cells #[.int .i64 2, .int .i64 1, .slice Aq 3 cq] 31)).alloc (.cells #[.int .i64 2, .int .i64 1, .slice (some ⟨gr, 0, none⟩) 3 cr] 31)).alloc (.cells #[.int .i64 2, .int .i64 1, .slice As 3 cs] 31)).alloc (.cells (madeCells #[.slice none 0 0] 13) 57)).heap[w32.heap.size + 1 + 1]? = some (.cells #[.int .i64 2, .int .i64 1, .slice (some ⟨gr, 0, none⟩) 3 cr] 31)) := Lib.hid (blk_alloc (blk_alloc (blk_at _ (by simp)) _) _)
                have VS : Hid ((((((w32.alloc (.cells #[.int .i64 2, .int .i64 1, .slice (some ⟨w32.heap.size + 1 + 1 + 1 + 1, 0, none⟩) 13 13] 31)).alloc (.cells #[.int .i64 2, .int .i64 1, .slice Aq 3 cq] 31)).alloc (.cells #[.int .i64 2, .int .i64 1, .slice (some ⟨gr, 0, none⟩) 3 cr] 31)).alloc (.cells #[.int .i64 2, .int .i64 1, .slice As 3 cs] 31)).alloc (.cells (madeCells #[.slice none 0 0] 13) 57)).heap[w32.heap.size + 1 + 1 + 1]? = some (.cells #[.int .i64 2, .int .i64 1, .slice As 3 cs] 31)) := Lib.hid (blk_alloc (blk_at _ (by simp)) _)
                have P13 : Hid ((((((w32.alloc (.cells #[.int .i64 2, .int .i64 1, .slice (some ⟨w32.heap.size + 1 + 1 + 1 + 1, 0, none⟩) 13 13] 31)).alloc (.cells #[.int .i64 2, .int .i64 1, .slice Aq 3 cq] 31)).alloc (.cells #[.int .i64 2, .int .i64 1, .slice (some ⟨gr, 0, none⟩) 3 cr] 31)).alloc (.cells #[.int .i64 2, .int .i64 1, .slice As 3 cs] 31)).alloc (.cells (madeCells #[.slice none 0 0] 13) 57)).heap[w32.heap.size + 1 + 1 + 1 + 1]? = some (.cells (madeCells #[.slice none 0 0] 13) 57)) := Lib.hid (blk_at _ (by simp))
                clear ow_ hb
                go_upto_region 32 with fail
                generalize ((((w32.alloc (.cells #[.int .i64 2, .int .i64 1, .slice (some ⟨w32.heap.size + 1 + 1 + 1 + 1, 0, none⟩) 13 13] 31)).alloc (.cells #[.int .i64 2, .int .i64 1, .slice Aq 3 cq] 31)).alloc (.cells #[.int .i64 2, .int .i64 1, .slice (some ⟨gr, 0, none⟩) 3 cr] 31)).alloc (.cells #[.int .i64 2, .int .i64 1, .slice As 3 cs] 31)).alloc (.cells (madeCells #[.slice none 0 0] 13) 57) = W33 at *
                generalize w32.heap.size = z33 at *
                clear hs1 hs2
                obtain ⟨u0, hu0⟩ := get_some (show 0 < ur.length by rw [Xr.out.len]; decide)
                have hc1 : W33.cell? ⟨gr, 0, none⟩ = some u0 := by rw [Xr.out.top.cellAt 0 (by decide)]; exact hu0
                have hc2 : W33.frozen? ⟨gr, 0, none⟩ = false := Xr.out.top.frozenAt 0
                clear hu0
                have q0 := blk_cell VQ.out 0 _ rfl
                have q1 := blk_frozen VQ.out 0
                have r2 := blk_cell VR.out 2 _ rfl
                have t2 := blk_cell VS.out 2 _ rfl
                have t3 := blk_frozen VS.out 2
                have lq := blk_lt VQ.out
                have lr := blk_lt VR.out
                have ls := blk_lt VS.out
                have hg3 : gr < W33.heap.size := by omega
                clear hgl
                have n1 : gr ≠ z33 + 1 := by omega
                have n2 : gr ≠ z33 + 1 + 1 + 1 := by omega
                have n3 : z33 + 1 ≠ gr := by omega
                have n4 : z33 + 1 + 1 + 1 ≠ gr := by omega
                have n5 : z33 + 1 ≠ z33 + 1 + 1 + 1 := by omega
                have n6 : z33 + 1 + 1 + 1 ≠ z33 + 1 := by omega
                have n7 : gr ≠ z33 + 1 + 1 + 1 + 1 := by omega
                have n8 : gr ≠ z33 := by omega
                have n9 : z33 + 1 ≠ z33 := by omega
                have n10 : z33 + 1 + 1 + 1 ≠ z33 := by omega
                have n11 : z33 + 1 + 1 + 1 ≠ z33 + 1 + 1 := by omega
                have n12 : z33 + 1 ≠ z33 + 1 + 1 := by omega
                have n13 : z33 + 1 ≠ z33 + 1 + 1 + 1 + 1 := by omega
                have n14 : z33 + 1 + 1 + 1 ≠ z33 + 1 + 1 + 1 + 1 := by omega
                have n15 : gr ≠ z33 + 1 + 1 := by omega
                have NE := Lib.hid (And.intro n7 (And.intro n8 (And.intro n9 (And.intro n10 (And.intro n11 (And.intro n12 (And.intro n13 (And.intro n14 n15))))))))
                clear n7 n8 n9 n10 n11 n12 n13 n14 n15
                have hbq : w30.heap.size ≤ z33 + 1 ∧ w30.heap.size ≤ z33 + 1 + 1 + 1 ∧ w30.heap.size ≤ gr := by omega
                have HBQ := Lib.hid hbq
                clear hbq hlt hgB
                generalize z33 + 1 + 1 + 1 + 1 = zu at *
                generalize z33 + 1 + 1 + 1 = zs at *
                generalize z33 + 1 + 1 = zr at *
                generalize z33 + 1 = zq at *
                as_aux_lemma =>
                  go_cut [362] (fun s362 wx => Hid (NM w wx z33 zq zr zs zu gr Aq cq cr))
                  case first =>
                    go_region
                    · go_wp2_with fail
                      go_meet
                      exact Lib.hid (nm_of FN.out BC.out FRq.out VP.out VQ.out VR.out VS.out P13.out Xr.out HBQ.out NE.out n1 n2 n5 ((((Below.refl _ _).alloc (by simp) _).alloc (by simp) _).drew) (blk_alloc (blk_at _ (by simp)) _) (blk_at _ (by simp)))
                    · go_wp2_with fail
                      go_meet
                      exact Lib.hid (nm_of FN.out BC.out FRq.out VP.out VQ.out VR.out VS.out P13.out Xr.out HBQ.out NE.out n1 n2 n5 ((((Below.refl _ _).alloc (by simp) _).alloc (by simp) _).drew) (blk_at _ (by simp)) (blk_alloc (blk_at _ (by simp)) _))
                  case rest =>
                    clear FN BC FRq VP VQ VR VS P13 Xr HBQ NE n1 n2 n3 n4 n5 n6 hc1 hc2 q0 q1 r2 t2 t3 lq lr ls hg3 N mk13 mk3
                    have N := Lib.hid hcut.out.n
                    have VP := Lib.hid hcut.out.vp
                    have VQ := Lib.hid hcut.out.vq
                    have VR := Lib.hid hcut.out.vr
                    obtain ⟨gs, vs_, rs_⟩ := hcut.out.vs
                    have VS := Lib.hid vs_
                    have RS := Lib.hid rs_
                    have RP := Lib.hid hcut.out.rp
                    have RQ := Lib.hid hcut.out.rq
                    have RR := Lib.hid hcut.out.rr
                    clear hcut vs_ rs_
                    go_wp2_with fail
                    refine (given_calls _).mono ?_
                    rintro e w33 ⟨v_, rfl, ⟨ug, ow_⟩, hb⟩
                    obtain ⟨Ag, cg, rfl, hg1, hg2, hl_⟩ := own_form (show w33.ownsRow wc.heap.size 57 1 v_ 3 ug from ow_.top)
                    clear hl_
                    have Rg := Lib.hid (ow_.rma.mono (B' := 0) (Nat.zero_le _))
                    have HB : Hid (Below wc.heap.size wc w33) := Lib.hid hb
                    replace VP := Lib.hid (blk_next HB.out VP.out)
                    replace VQ := Lib.hid (blk_next HB.out VQ.out)
                    replace VR := Lib.hid (blk_next HB.out VR.out)
                    replace VS := Lib.hid (blk_next HB.out VS.out)
                    replace RP := Lib.hid (RP.out.next HB.out)
                    replace RQ := Lib.hid (RQ.out.next HB.out)
                    replace RR := Lib.hid (RR.out.next HB.out)
                    replace RS := Lib.hid (RS.out.next HB.out)
                    replace N := Lib.hid (Bgo N.out HB.out)
                    clear HB
                    clear ow_ hb
                    go_wp2_with fail
                    refine (ck1 _ _ _ hg1 hg2 Rg.out).mono ?_
                    rintro e w34 ⟨rfl, hb⟩
                    have HB : Hid (Below w33.heap.size w33 w34) := Lib.hid hb
                    have y_ := blk_next hb VP.out
                    have slVP := blk_lt y_
                    have sVP0 := blk_cell y_ 0 _ rfl
                    have sVP1 := blk_cell y_ 1 _ rfl
                    have sVP2 := blk_cell y_ 2 _ rfl
                    clear y_
                    replace VP := Lib.hid (blk_next HB.out VP.out)
                    replace VQ := Lib.hid (blk_next HB.out VQ.out)
                    replace VR := Lib.hid (blk_next HB.out VR.out)
                    replace VS := Lib.hid (blk_next HB.out VS.out)
                    replace RP := Lib.hid (RP.out.next HB.out)
                    replace RQ := Lib.hid (RQ.out.next HB.out)
                    replace RR := Lib.hid (RR.out.next HB.out)
                    replace RS := Lib.hid (RS.out.next HB.out)
                    replace Rg := Lib.hid (Rg.out.next HB.out)
                    replace N := Lib.hid (Bgo N.out HB.out)
                    clear HB
                    clear hb
                    go_wp2_with fail
                    clear slVP sVP0 sVP1 sVP2
                    clear Rg
                    refine (ck2 _ _ _ (by omega) (by omega) RP.out).mono ?_
                    rintro e w35 ⟨rfl, hb⟩
                    have HB : Hid (Below w34.heap.size w34 w35) := Lib.hid hb
                    have y_ := blk_next hb VQ.out
                    have slVQ := blk_lt y_
                    have sVQ0 := blk_cell y_ 0 _ rfl
                    have sVQ1 := blk_cell y_ 1 _ rfl
                    have sVQ2 := blk_cell y_ 2 _ rfl
                    clear y_
                    replace VP := Lib.hid (blk_next HB.out VP.out)
                    replace VQ := Lib.hid (blk_next HB.out VQ.out)
                    replace VR := Lib.hid (blk_next HB.out VR.out)
                    replace VS := Lib.hid (blk_next HB.out VS.out)
                    replace RP := Lib.hid (RP.out.next HB.out)
                    replace RQ := Lib.hid (RQ.out.next HB.out)
                    replace RR := Lib.hid (RR.out.next HB.out)
                    replace RS := Lib.hid (RS.out.next HB.out)
                    replace N := Lib.hid (Bgo N.out HB.out)
                    clear HB
                    clear hb
                    go_wp2_with fail
                    clear slVQ sVQ0 sVQ1 sVQ2
                    clear RP VP
                    refine (ck3 _ _ _ hq1 hq2 RQ.out).mono ?_
                    rintro e w36 ⟨rfl, hb⟩
                    have HB : Hid (Below w35.heap.size w35 w36) := Lib.hid hb
                    have y_ := blk_next hb VR.out
                    have slVR := blk_lt y_
                    have sVR0 := blk_cell y_ 0 _ rfl
                    have sVR1 := blk_cell y_ 1 _ rfl
                    have sVR2 := blk_cell y_ 2 _ rfl
                    clear y_
                    replace VQ := Lib.hid (blk_next HB.out VQ.out)
                    replace VR := Lib.hid (blk_next HB.out VR.out)
                    replace VS := Lib.hid (blk_next HB.out VS.out)
                    replace RQ := Lib.hid (RQ.out.next HB.out)
                    replace RR := Lib.hid (RR.out.next HB.out)
                    replace RS := Lib.hid (RS.out.next HB.out)
                    replace N := Lib.hid (Bgo N.out HB.out)
                    clear HB
                    clear hb
                    go_wp2_with fail
                    clear slVR sVR0 sVR1 sVR2
                    clear RQ VQ
                    refine (ck4 _ _ _ hr1 hr2 RR.out).mono ?_
                    rintro e w37 ⟨rfl, hb⟩
                    have HB : Hid (Below w36.heap.size w36 w37) := Lib.hid hb
                    have y_ := blk_next hb VS.out
                    have slVS := blk_lt y_
                    have sVS0 := blk_cell y_ 0 _ rfl
                    have sVS1 := blk_cell y_ 1 _ rfl
                    have sVS2 := blk_cell y_ 2 _ rfl
                    clear y_
                    replace VR := Lib.hid (blk_next HB.out VR.out)
                    replace VS := Lib.hid (blk_next HB.out VS.out)
                    replace RR := Lib.hid (RR.out.next HB.out)
                    replace RS := Lib.hid (RS.out.next HB.out)
                    replace N := Lib.hid (Bgo N.out HB.out)
                    clear HB
                    clear hb
                    go_wp2_with fail
                    clear slVS sVS0 sVS1 sVS2
                    clear RR VR
                    refine (ck5 _ _ _ (by omega) (by omega) RS.out).mono ?_
                    rintro e w38 ⟨rfl, hb⟩
                    have HB : Hid (Below w37.heap.size w37 w38) := Lib.hid hb
                    replace VS := Lib.hid (blk_next HB.out VS.out)
                    replace RS := Lib.hid (RS.out.next HB.out)
                    replace N := Lib.hid (Bgo N.out HB.out)
                    clear HB
                    clear hb
                    go_wp2_with fail
                    clear RS VS
                    refine (ck6 _ none 0 (by omega) (by omega) (RMA.nil _ _ _)).mono ?_
                    rintro e w39 ⟨rfl, hb⟩
                    have HB : Hid (Below w38.heap.size w38 w39) := Lib.hid hb
                    replace N := Lib.hid (Bgo N.out HB.out)
                    clear HB
                    clear hb
                    go_wp2_with fail
                    refine (alive_calls _).mono ?_
                    rintro e w40 ⟨rfl, hb⟩
                    have HB : Hid (Below w39.heap.size w39 w40) := Lib.hid hb
                    replace N := Lib.hid (Bgo N.out HB.out)
                    clear HB
                    clear hb
                    go_wp2_with fail
                    go_ret
                    exact ⟨rfl, N.out⟩
end Go.Proofs.Ytmpmeeacdllomaa
