/- Several texts in one. -/
import Derived.Deep.DeepCutAuto
import Derived.Test.YtapehckcmmompaaM13
namespace Go.Proofs.Ytapehckcmmompaa
open Go.ChangeShapes Go.WideShapes Go.ChangeAt Go.RowKit
set_option linter.unusedVariables false
set_option maxRecDepth 100000
attribute [local go_sem ↓] Go.wp_at_zero Go.wp_at_succ
theorem strp_byt {B : Nat} {w : World} {D : Option Addr} {ds : List Dk} (h : RD B w D ds) (k : Nat) : ∀ x ∈ ds, Byt (if x.failed then [] else x.blocks.getD k []) := fun x hx => by
 obtain ⟨i, hi⟩ := List.mem_iff_getElem?.1 hx
 obtain ⟨b, off, Ai, ci, _, _, _, _, _, _, hm⟩ := h.at_ hi
 split
 ·intro y hy; cases hy
 ·rw [List.getD_eq_getElem?_getD]
  cases e : x.blocks[k]? with
  | none => intro y hy; cases hy
  | some l => exact hm.byt l (List.mem_of_getElem? e)
set_option maxHeartbeats 16000000 in
theorem refStripe_calls (d p : Int) (D A : Option Addr) (cd na ca B : Nat) (ds : List Dk) (k : Nat) (w : World) (hnd : ds.length ≤ cd) (hcd : cd ≤ 9223372036854775807) (hd : RD B w D ds)
  (h20 : ds.length ≤ 20) (hk : ∀ x ∈ ds, x.failed = false → k < x.blocks.length) (hbl : ∀ x ∈ ds, ∀ l ∈ x.blocks, l.length ≤ 1000) :
  Calls Try.prog 26 #[Tv d p (.slice D ds.length cd) (.slice A na ca), .int .i64 (k : Int)] w (SPost w (d, p, strp ds k)) := by
 obtain ⟨i0, hi0, hz0, hz1, hz2⟩ := info_parts sl_info
 have HI := Lib.hid (And.intro hi0 (And.intro hz0 (And.intro hz1 hz2)))
 obtain ⟨j0, hj0, hy0, hy1, hy2⟩ := info_parts u8_info
 have HJ := Lib.hid (And.intro hj0 (And.intro hy0 (And.intro hy1 hy2)))
 clear hi0 hz0 hz1 hz2 hj0 hy0 hy1 hy2
 have HD := Lib.hid hd
 have HK := Lib.hid hk
 have HBL := Lib.hid hbl
 have HBYA := Lib.hid (strp_byt hd k)
 clear hd hk hbl
 go_enter Try.func26, Try.ntmps26
 go_wp2_with fail
 have SB0 : Hid ((((w.alloc (.cells #[.int .i64 d, .int .i64 p, .slice D ds.length cd, .slice A na ca] 25)).alloc (.cells #[.int .i64 0, .int .i64 0, .slice none 0 0] 54)).alloc (.cells #[.int .i64 d, .int .i64 p, .slice none 0 0] 54)).heap[w.heap.size]? = some (.cells #[.int .i64 d, .int .i64 p, .slice D ds.length cd, .slice A na ca] 25)) := Lib.hid (blk_alloc (blk_alloc (blk_new w _) _) _)
 have XB0 : Hid ((((w.alloc (.cells #[.int .i64 d, .int .i64 p, .slice D ds.length cd, .slice A na ca] 25)).alloc (.cells #[.int .i64 0, .int .i64 0, .slice none 0 0] 54)).alloc (.cells #[.int .i64 d, .int .i64 p, .slice none 0 0] 54)).heap[w.heap.size + 1]? = some (.cells #[.int .i64 0, .int .i64 0, .slice none 0 0] 54)) := Lib.hid (blk_alloc (blk_at _ (by simp)) _)
 have YB0 : Hid ((((w.alloc (.cells #[.int .i64 d, .int .i64 p, .slice D ds.length cd, .slice A na ca] 25)).alloc (.cells #[.int .i64 0, .int .i64 0, .slice none 0 0] 54)).alloc (.cells #[.int .i64 d, .int .i64 p, .slice none 0 0] 54)).heap[w.heap.size + 1 + 1]? = some (.cells #[.int .i64 d, .int .i64 p, .slice none 0 0] 54)) := Lib.hid (blk_at _ (by simp))
 have NN0 : Hid (Below w.heap.size w (((w.alloc (.cells #[.int .i64 d, .int .i64 p, .slice D ds.length cd, .slice A na ca] 25)).alloc (.cells #[.int .i64 0, .int .i64 0, .slice none 0 0] 54)).alloc (.cells #[.int .i64 d, .int .i64 p, .slice none 0 0] 54))) := Lib.hid (Bal (Bal (Bal (Below.refl _ _) _) _) _)
 go_loopw [6] (fun s wr => ∃ (i : Nat) (v : Value) (us : List Value), i ≤ ds.length ∧ s = .int .i64 i ∧ Hid (Below w.heap.size w wr) ∧ Hid (wr.heap[w.heap.size]? = some (.cells #[.int .i64 d, .int .i64 p, .slice D ds.length cd, .slice A na ca] 25)) ∧ Hid (wr.heap[w.heap.size + 1]? = some (.cells #[.int .i64 0, .int .i64 0, .slice none 0 0] 54)) ∧ Hid (wr.heap[w.heap.size + 1 + 1]? = some (.cells #[.int .i64 d, .int .i64 p, v] 54)) ∧ Hid (OMx w.heap.size wr v us ((strp ds k).take i))) (fun s _ => ds.length - (intOf s).toNat)
 case atStart => exact ⟨0, _, [], by omega, rfl, NN0, SB0, XB0, YB0, Lib.hid (by rw [List.take_zero]; exact OMx.nil _ _)⟩
 case round =>
  clear NN0 SB0 XB0 YB0
  obtain ⟨i, v, us, hi, rfl, NN, SB, XB, YB, O⟩ := hrel
  have hz := blk_lt YB.out
  have s2 : wr.cell? ⟨w.heap.size, 2, none⟩ = some (.slice D ds.length cd) := blk_cell SB.out 2 _ rfl
  by_cases hlt : i < ds.length
  ·obtain ⟨dk, hdk⟩ := get_some hlt
   obtain ⟨b, off, Ai, ci, rfl, hb9, c0, c1, h2, h3, hm⟩ := (HD.out.next NN.out).at_ hdk
   have TL : Hid (((strp ds k).take i).length = i) := Lib.hid (by rw [List.length_take, strp_len]; omega)
   have HTK := Lib.hid (take_snoc' (strp_get (k := k) hdk))
   have HBY := Lib.hid (HBYA.out dk (List.mem_of_getElem? hdk))
   obtain ⟨Av, cv, hv, hv1, hv2⟩ := own_form2 O.out.top
   rw [TL.out] at hv hv1
   subst hv
   have TOP : Hid (wr.ownsRow w.heap.size 26 1 (.slice Av i cv) i us) := Lib.hid (by have := O.out.top; rw [TL.out] at this; exact this)
   have k1 : (0 : Int) ≤ (i : Int) := by omega
   have k2 : (i : Int) < (ds.length : Int) := by omega
   by_cases hf : dk.failed = true
   ·rw [hf] at c0 HTK HBY
    simp only [if_true] at HTK HBY
    have y2 : wr.cell? ⟨w.heap.size + 1 + 1, 2, none⟩ = some (.slice Av i cv) := blk_cell YB.out 2 _ rfl
    go_wp2_with (at_builtin; refine wpList_append_rd _ rfl _ _ 44 rfl w.heap.size 26 i0 (.slice none 0 0) 1 24 Try.underlying44 HI.out.1 HI.out.2.1 HI.out.2.2.1 HI.out.2.2.2 rfl (by decide) _ i us rfl (TOP.out.alloc _) (some ⟨wr.heap.size, 0, none⟩) 1 1 [.slice none 0 0] rfl (rd_one (t := 26) (blk_new _ _)) (slice_one _ _ _) (by simp only [maxLen]; omega) (by omega) (by have q := NN.out.size; simp; omega) ?_; intro v2 w2 hown2 hg2 hat2; obtain ⟨A2, c2, rfl, g1, g2⟩ := own_form2 hown2; have G2 := Lib.hid hg2; have O2 := Lib.hid hown2; have YB2 : Hid (w2.heap[w.heap.size + 1 + 1]? = some (.cells #[.int .i64 d, .int .i64 p, .slice Av i cv] 54)) := Lib.hid (gblk_ty G2.out (TOP.out.alloc _) (blk_alloc YB.out _) ne_sl_st); have f2 := blk_frozen YB2.out 2; have y3 := blk_cell YB2.out 2 _ rfl; have hz2 := blk_lt YB2.out; clear hown2 hg2 hat2)
    all_goals
     have P2 := OMx.push O.out (Bal (Below.refl _ _) _) (World.ownsRow_nil _ _ _ _) (HBY.out) NN.out.size (by rw [TL.out]; exact O2.out) G2.out
     rw [← HTK.out] at P2
     have SB2 : Hid (w2.heap[w.heap.size]? = some (.cells #[.int .i64 d, .int .i64 p, .slice (some ⟨b, off, none⟩) ds.length cd, .slice A na ca] 25)) := Lib.hid (gblk_ty G2.out (TOP.out.alloc _) (blk_alloc SB.out _) ne_sl_sto)
     have XB2 : Hid (w2.heap[w.heap.size + 1]? = some (.cells #[.int .i64 0, .int .i64 0, .slice none 0 0] 54)) := Lib.hid (gblk_ty G2.out (TOP.out.alloc _) (blk_alloc XB.out _) ne_sl_st)
     have N2 : Hid (Below w.heap.size w w2) := Lib.hid (gbel G2.out (Bal NN.out _) (fun g hg => (TOP.out.lt g hg).1))
     refine ⟨⟨i + 1, .slice A2 (i + 1) c2, us ++ [.slice none 0 0], by omega, by go_num, Lib.hid ?_, Lib.hid ?_, Lib.hid ?_, Lib.hid ?_, Lib.hid ?_⟩, by simp [intOf]; omega⟩
     ·exact Bset1 N2.out (by omega) 2 _
     ·exact blk_set_other SB2.out (by omega) 2 _
     ·exact blk_set_other XB2.out (by omega) 2 _
     ·exact blk_set YB2.out 2 _
     ·exact P2.set_ YB2.out ne_st_u8 ne_st_sl _
   ·have hf' : dk.failed = false := by simpa using hf
    rw [hf'] at c0 HTK HBY
    simp only [Bool.false_eq_true, if_false] at HTK HBY
    have hkb := HK.out dk (List.mem_of_getElem? hdk) hf'
    obtain ⟨l, hl⟩ := get_some hkb
    have hln := HBL.out dk (List.mem_of_getElem? hdk) l (List.mem_of_getElem? hl)
    obtain ⟨b2, off2, A3, c3, rfl, hb2, h1', h2', h3', h4⟩ := hm.at_ hl
    rw [List.getD_eq_getElem?_getD, hl, Option.getD_some] at HTK HBY
    have HB4 := Lib.hid h4
    have j1 : (0 : Int) ≤ (k : Int) := by omega
    have j2 : (k : Int) < (dk.blocks.length : Int) := by omega
    clear hf hf' hl h4 hdk
    have NS := Lib.hid NN.out.size
    go_wp2_with (first | (at_builtin; refine wpList_append_rd _ rfl _ _ 26 rfl wr.heap.size 5 j0 (.int .u8 0) 1 1 Try.underlying26 HJ.out.1 HJ.out.2.1 HJ.out.2.2.1 HJ.out.2.2.2 rfl (by decide) _ 0 [] rfl (World.ownsRow_nil _ _ _ _) A3 l.length c3 (bv l) rfl (HB4.out.2.rd (bv_len l)) (bv_one l) (by simp only [maxLen]; omega) (by omega) (Nat.le_refl _) ?_; intro v1 w1 hown1 hg1 hat1; simp only [Nat.zero_add, List.nil_append] at hown1; obtain ⟨Au, cu, rfl, hu1, hu2⟩ := own_form2 hown1; have U1 : Hid (OB wr.heap.size w1 (.slice Au l.length cu) l) := Lib.hid hown1; have N1 : Hid (Below wr.heap.size wr w1) := Lib.hid (gbel hg1 (Below.refl _ _) (fun g hg => by cases hg)); replace SB := Lib.hid (blk_next N1.out SB.out); replace XB := Lib.hid (blk_next N1.out XB.out); replace YB := Lib.hid (blk_next N1.out YB.out); replace TOP := Lib.hid (own_next N1.out TOP.out); replace NN := Lib.hid (Bgo NN.out N1.out); have y2 : w1.cell? ⟨w.heap.size + 1 + 1, 2, none⟩ = some (.slice Av i cv) := blk_cell YB.out 2 _ rfl; have hz1 := blk_lt YB.out; clear hown1 hg1 hat1) | (at_builtin; refine wpList_append_rd _ rfl _ _ 44 rfl w.heap.size 26 i0 (.slice none 0 0) 1 24 Try.underlying44 HI.out.1 HI.out.2.1 HI.out.2.2.1 HI.out.2.2.2 rfl (by decide) _ i us rfl (TOP.out.alloc _) (some ⟨w1.heap.size, 0, none⟩) 1 1 [.slice Au l.length cu] rfl (rd_one (t := 26) (blk_new _ _)) (slice_one _ _ _) (by simp only [maxLen]; omega) (by omega) (by have q := NN.out.size; simp; omega) ?_; intro v2 w2 hown2 hg2 hat2; obtain ⟨A2, c2, rfl, g1, g2⟩ := own_form2 hown2; have G2 := Lib.hid hg2; have O2 := Lib.hid hown2; have YB2 : Hid (w2.heap[w.heap.size + 1 + 1]? = some (.cells #[.int .i64 d, .int .i64 p, .slice Av i cv] 54)) := Lib.hid (gblk_ty G2.out (TOP.out.alloc _) (blk_alloc YB.out _) ne_sl_st); have f2 := blk_frozen YB2.out 2; have y3 := blk_cell YB2.out 2 _ rfl; have hz2 := blk_lt YB2.out; clear hown2 hg2 hat2))
    all_goals
     have P2 := OMx.push O.out (Bal N1.out _) (U1.out.alloc _) (HBY.out) NS.out (by rw [TL.out]; exact O2.out) G2.out
     rw [← HTK.out] at P2
     have SB2 : Hid (w2.heap[w.heap.size]? = some (.cells #[.int .i64 d, .int .i64 p, .slice (some ⟨b, off, none⟩) ds.length cd, .slice A na ca] 25)) := Lib.hid (gblk_ty G2.out (TOP.out.alloc _) (blk_alloc SB.out _) ne_sl_sto)
     have XB2 : Hid (w2.heap[w.heap.size + 1]? = some (.cells #[.int .i64 0, .int .i64 0, .slice none 0 0] 54)) := Lib.hid (gblk_ty G2.out (TOP.out.alloc _) (blk_alloc XB.out _) ne_sl_st)
     have N2 : Hid (Below w.heap.size w w2) := Lib.hid (gbel G2.out (Bal NN.out _) (fun g hg => (TOP.out.lt g hg).1))
     refine ⟨⟨i + 1, .slice A2 (i + 1) c2, us ++ [.slice Au l.length cu], by omega, by go_num, Lib.hid ?_, Lib.hid ?_, Lib.hid ?_, Lib.hid ?_, Lib.hid ?_⟩, by simp [intOf]; omega⟩
     ·exact Bset1 N2.out (by omega) 2 _
     ·exact blk_set_other SB2.out (by omega) 2 _
     ·exact blk_set_other XB2.out (by omega) 2 _
     ·exact blk_set YB2.out 2 _
     ·exact P2.set_ YB2.out ne_st_u8 ne_st_sl _
  ·obtain rfl : i = ds.length := by omega
   have O1 : Hid (OMx w.heap.size wr v us (strp ds k)) := Lib.hid (by have := O.out; rw [List.take_of_length_le (by rw [strp_len]; omega)] at this; exact this)
   obtain ⟨Av, cv, rfl, hv1, hv2⟩ := own_form2 O1.out.top
   have y0 := blk_cell YB.out 0 _ rfl
   have y1 := blk_cell YB.out 1 _ rfl
   have y2 := blk_cell YB.out 2 _ rfl
   have x0 := blk_cell XB.out 0 _ rfl
   have x1 := blk_cell XB.out 1 _ rfl
   have x2 := blk_cell XB.out 2 _ rfl
   have f0 := blk_frozen XB.out 0
   have f1 := blk_frozen XB.out 1
   have f2 := blk_frozen XB.out 2
   go_wp2_with fail
   have Z := blk_set3 XB.out (.int .i64 d) (.int .i64 p) (.slice Av (strp ds k).length cv)
   have e0 := blk_cell Z 0 _ rfl
   have e1 := blk_cell Z 1 _ rfl
   have e2 := blk_cell Z 2 _ rfl
   exact bodyPost_ret (v := Sv d p (.slice Av (strp ds k).length cv)) (by simp [results, Try.results26, go_sem, e0, e1, e2]) rfl ⟨_, rfl, ⟨us, O1.out.set3_ XB.out _ _ _⟩, Bset3 NN.out (by omega) _ _ _⟩
end Go.Proofs.Ytapehckcmmompaa
namespace Go.Proofs.Ytapehckcmmompaa
open Go.ChangeShapes Go.WideShapes Go.ChangeAt Go.RowKit
set_option linter.unusedVariables false
set_option maxRecDepth 100000
attribute [local go_sem ↓] Go.wp_at_zero Go.wp_at_succ
abbrev zO : Value := .agg #[.string ⟨#[]⟩, .int .i64 0, .int .i64 0, .int .i64 0, .int .i64 0]
abbrev zD : Value := .agg #[.bool false, .slice none 0 0]
theorem keep4 {W : World} {g : Nat} {a b c e : Value} {t : TypeId} (h : W.heap[g]? = some (.cells #[a, b, c, e] t)) : W.cell? ⟨g, 0, none⟩ = some a ∧ W.cell? ⟨g, 1, none⟩ = some b ∧ W.cell? ⟨g, 3, none⟩ = some e := ⟨blk_cell h 0 _ rfl, blk_cell h 1 _ rfl, blk_cell h 3 _ rfl⟩
theorem infoOb : (Try.prog.info? 50).map (fun i => (i.zero, i.size, i.bytes)) = some (some zO, 5, 48) := by kernel_rfl
theorem infoDk : (Try.prog.info? 46).map (fun i => (i.zero, i.size, i.bytes)) = some (some zD, 2, 32) := by kernel_rfl
theorem own0 {W : World} {base g : Nat} {e : TypeId} {size : Nat} (h : W.heap[g]? = some (.cells #[] e)) (hb : base ≤ g) : W.ownsRow base e size (.slice (some ⟨g, 0, none⟩) 0 0) 0 [] :=
 ⟨by simp, .inr ⟨g, 0, #[], rfl, hb, h, Nat.le_refl _, by unfold maxLen; omega, by simp, by simp⟩⟩
theorem flatO_one (os : List Ob) : ∀ u ∈ flatO os, u.oneCell' = true := fun u hu => by
 rw [flatO, List.mem_flatMap] at hu
 obtain ⟨o, _, h⟩ := hu
 simp only [obL, List.mem_cons, List.not_mem_nil, or_false] at h
 rcases h with rfl | rfl | rfl | rfl | rfl <;> rfl
theorem RO.rd {B : Nat} {w : World} {A : Option Addr} {os : List Ob} (h : RO B w A os) : Rd w 5 A os.length (flatO os) := by
 refine ⟨flatO_len os, fun h0 => ?_⟩
 obtain ⟨o, ho⟩ := get_some h0
 obtain ⟨b, off, e, _, hl, _⟩ := h 0 o ho
 refine ⟨b, off, e, hl, fun j u hu => ?_⟩
 have hj := get_lt hu
 rw [flatO_len] at hj
 obtain ⟨o', ho'⟩ := get_some (show j / 5 < os.length by omega)
 obtain ⟨x, hx⟩ := get_some (show j % 5 < (obL o').length from Nat.mod_lt _ (by decide))
 have hf := flatO_get ho' hx
 rw [show j / 5 * 5 + j % 5 = j by omega, hu] at hf
 cases hf
 obtain ⟨b', off', e', _, _, hc⟩ := h (j / 5) o' ho'
 rw [e] at e'
 injection e' with e'
 injection e' with e1 e2 _
 subst e1 e2
 have := hc (j % 5) u hx
 rwa [Nat.add_assoc, show j / 5 * 5 + j % 5 = j by omega] at this
def TwPost (w : World) (d p : Int) (ds : List Dk) (os : List Ob) (e : Ending) (w' : World) : Prop := ∃ v u, e = .returned (Tv d p v u) ∧ OT w.heap.size w' v ds ∧ OO w.heap.size w' u os ∧ Below w.heap.size w w'
set_option maxHeartbeats 16000000 in
theorem twin_calls (d p : Int) (D A : Option Addr) (cd ca B : Nat) (ds : List Dk) (os : List Ob) (w : World) (hnd : ds.length ≤ cd) (hcd : cd ≤ 9223372036854775807) (hna : os.length ≤ ca) (hca : ca ≤ 9223372036854775807) (hd : RD B w D ds) (hs : RO B w A os)
  (h20 : ds.length ≤ 20) (h20' : os.length ≤ 20) (hbl : ∀ k ∈ ds, k.blocks.length ≤ 1000 ∧ ∀ b ∈ k.blocks, b.length ≤ 100) :
  Calls Try.prog 11 #[Tv d p (.slice D ds.length cd) (.slice A os.length ca)] w (TwPost w d p ds os) := by
 obtain ⟨i0, hi0, hz0, hz1, hz2⟩ := info_parts sl_info
 have HI := Lib.hid (And.intro hi0 (And.intro hz0 (And.intro hz1 hz2)))
 obtain ⟨j0, hj0, hy0, hy1, hy2⟩ := info_parts u8_info
 have HJ := Lib.hid (And.intro hj0 (And.intro hy0 (And.intro hy1 hy2)))
 obtain ⟨k0, hk0, hx0, hx1, hx2⟩ := info_parts infoOb
 have HK := Lib.hid (And.intro hk0 (And.intro hx0 (And.intro hx1 hx2)))
 obtain ⟨m0, hm0, hv0, hv1, hv2⟩ := info_parts infoDk
 have HM0 := Lib.hid (And.intro hm0 (And.intro hv0 (And.intro hv1 hv2)))
 clear hi0 hz0 hz1 hz2 hj0 hy0 hy1 hy2 hk0 hx0 hx1 hx2 hm0 hv0 hv1 hv2
 have RS : Hid (∀ W : World, Below w.heap.size w W → Rd W 5 A os.length (flatO os)) := Lib.hid (fun W hW => (hs.next hW).rd)
 have HD := Lib.hid hd
 have HBL := Lib.hid hbl
 have G1 : Hid (0 + os.length ≤ maxLen) := Lib.hid (by unfold maxLen; omega)
 have G2 : Hid ((0 + os.length) * 48 ≤ 140737488355328) := Lib.hid (by omega)
 clear hs hd hbl
 go_enter Try.func11, Try.ntmps11
 go_upto_region 1 with fail
 have z0 : ((w.alloc (.cells #[.int .i64 d, .int .i64 p, .slice D ds.length cd, .slice A os.length ca] 25)).alloc (.cells #[.int .i64 0, .int .i64 0, .slice none 0 0, .slice none 0 0] 25)).heap[w.heap.size]? = some (.cells #[.int .i64 d, .int .i64 p, .slice D ds.length cd, .slice A os.length ca] 25) := blk_alloc (blk_new w _) _
 have z1 : ((w.alloc (.cells #[.int .i64 d, .int .i64 p, .slice D ds.length cd, .slice A os.length ca] 25)).alloc (.cells #[.int .i64 0, .int .i64 0, .slice none 0 0, .slice none 0 0] 25)).heap[w.heap.size + 1]? = some (.cells #[.int .i64 0, .int .i64 0, .slice none 0 0, .slice none 0 0] 25) := blk_at _ (by simp)
 have b0 : Below w.heap.size w ((w.alloc (.cells #[.int .i64 d, .int .i64 p, .slice D ds.length cd, .slice A os.length ca] 25)).alloc (.cells #[.int .i64 0, .int .i64 0, .slice none 0 0, .slice none 0 0] 25)) := Bal (Bal (Below.refl _ _) _) _
 generalize ((w.alloc (.cells #[.int .i64 d, .int .i64 p, .slice D ds.length cd, .slice A os.length ca] 25)).alloc (.cells #[.int .i64 0, .int .i64 0, .slice none 0 0, .slice none 0 0] 25)) = W0 at *
 have B0 := Lib.hid b0
 have Z0 := Lib.hid z0
 have Z1 := Lib.hid z1
 have sz : w.heap.size + 2 ≤ W0.heap.size := blk_lt z1
 clear z0 z1 b0
 go_cut [3] (fun s3 wx => ∃ (gb : Nat) (u : Value), s3 = .pointer (some ⟨gb, 0, none⟩) ∧ w.heap.size + 1 < gb ∧ Hid (wx.heap[gb]? = some (.cells #[.int .i64 d, .int .i64 p, .slice none 0 0, u] 25)) ∧ Hid (OO w.heap.size wx u os) ∧ Hid (wx.heap[w.heap.size]? = some (.cells #[.int .i64 d, .int .i64 p, .slice D ds.length cd, .slice A os.length ca] 25)) ∧ Hid (wx.heap[w.heap.size + 1]? = some (.cells #[.int .i64 0, .int .i64 0, .slice none 0 0, .slice none 0 0] 25)) ∧ Hid (Below w.heap.size w wx))
 case first =>
  go_region_held3 (fun W => W.cell? ⟨w.heap.size, 0, none⟩ = some (.int .i64 d) ∧ W.cell? ⟨w.heap.size, 1, none⟩ = some (.int .i64 p) ∧ W.cell? ⟨w.heap.size, 3, none⟩ = some (.slice A os.length ca)) (first | (refine keep4 (c := .slice D ds.length cd) (t := 25) ?_; repeat (first | with_reducible exact Z0.out | with_reducible exact Y0.out | with_reducible refine blk_drew ?_ | with_reducible refine blk_alloc ?_ _ | with_reducible refine blk_set_other ?_ (by omega) _ _))) (first | (refine step_append_rd _ (by rfl) _ _ 23 (by rfl) (w.heap.size + 2) 50 k0 zO 5 48 Try.underlying23 HK.out.1 HK.out.2.1 HK.out.2.2.1 HK.out.2.2.2 rfl (by decide) _ 0 [] (by rfl) (own0 ?_ ?_) A os.length ca (flatO os) (by rfl) (RS.out _ ?_) (flatO_one os) G1.out G2.out ?_ ?_; (first | exact blk_new _ _ | exact blk_alloc (blk_new _ _) _ | exact blk_at _ (by simp)); (first | omega | (simp; done) | (simp; omega)); (repeat (first | exact B1.out | exact B0.out | refine Below.drew ?_ | refine Bal ?_ _)); (first | omega | (simp; done) | (simp; omega)); intro v1 w1 hown1 hgrow1 hat1; simp only [Nat.zero_add, List.nil_append] at hown1; (try (with_reducible replace hgrow1 := gundrew hgrow1)); obtain ⟨A1, cp1, rfl, g1, f1⟩ := own_form2 hown1; have O1 := Lib.hid hown1; have Y0 : Hid (w1.heap[w.heap.size]? = some (.cells #[.int .i64 d, .int .i64 p, .slice D ds.length cd, .slice A os.length ca] 25)) := Lib.hid (gblk hgrow1 (by first | exact blk_alloc Z0.out _ | exact blk_alloc (blk_alloc Z0.out _) _) (by simp [Value.ownBlock]; omega)); have Y1 : Hid (w1.heap[w.heap.size + 1]? = some (.cells #[.int .i64 0, .int .i64 0, .slice none 0 0, .slice none 0 0] 25)) := Lib.hid (gblk hgrow1 (by first | exact blk_alloc Z1.out _ | exact blk_alloc (blk_alloc Z1.out _) _) (by simp [Value.ownBlock]; omega)); have B1 : Hid (Below w.heap.size w w1) := Lib.hid (gbel hgrow1 (by repeat (first | exact B0.out | refine Below.drew ?_ | refine Bal ?_ _)) (by simp [Value.ownBlock]; omega)); (first | (have BX2 := Lib.hid (gblk (b := W0.heap.size) (o := .cells #[.int .i64 0, .int .i64 0, .slice none 0 0, .slice none 0 0] 25) hgrow1 (by first | (with_reducible exact blk_alloc (blk_new _ _) _) | (with_reducible exact blk_alloc (blk_at _ (by rfl)) _)) (by simp [Value.ownBlock]; try omega)); have bc0 := blk_cell BX2.out 0 _ rfl; have bf0 := blk_frozen BX2.out 0; have bc1 := blk_cell BX2.out 1 _ rfl; have bf1 := blk_frozen BX2.out 1; have bc2 := blk_cell BX2.out 2 _ rfl; have bf2 := blk_frozen BX2.out 2; have bc3 := blk_cell BX2.out 3 _ rfl; have bf3 := blk_frozen BX2.out 3; have bl := blk_lt BX2.out) | (have BX2 := Lib.hid (gblk (b := W0.heap.size + 1) (o := .cells #[.int .i64 0, .int .i64 0, .slice none 0 0, .slice none 0 0] 25) hgrow1 (by with_reducible exact blk_at _ (by simp)) (by simp [Value.ownBlock]; try omega)); have bc0 := blk_cell BX2.out 0 _ rfl; have bf0 := blk_frozen BX2.out 0; have bc1 := blk_cell BX2.out 1 _ rfl; have bf1 := blk_frozen BX2.out 1; have bc2 := blk_cell BX2.out 2 _ rfl; have bf2 := blk_frozen BX2.out 2; have bc3 := blk_cell BX2.out 3 _ rfl; have bf3 := blk_frozen BX2.out 3; have bl := blk_lt BX2.out) | skip); clear hown1 hgrow1 hat1))
  all_goals
   go_wp2_with fail
   go_meet
   first
    | exact ⟨_, .slice A1 os.length cp1, rfl, (by omega), Lib.hid (blk_set4 BX2.out _ _ _ _), Lib.hid (OO.set4_ (OO.mono O1.out (by omega)) BX2.out _ _ _ _), Lib.hid (blk_set4_other Y0.out (by omega) _ _ _ _), Lib.hid (blk_set4_other Y1.out (by omega) _ _ _ _), Lib.hid (Bset4 B1.out (by omega) _ _ _ _)⟩
    | exact ⟨_, .slice A1 os.length cp1, rfl, (by have := blk_lt Y1.out; omega), Lib.hid (blk_new w1 _), Lib.hid (OO.next (Bal (Below.refl _ _) _) (OO.mono O1.out (by omega))), Lib.hid (blk_alloc Y0.out _), Lib.hid (blk_alloc Y1.out _), Lib.hid (Bal B1.out _)⟩
    | trace_state
 case rest =>
  obtain ⟨gb, u0, rfl, hgb, G0, U0, SB0, XB0, NN0⟩ := hcut
  clear Z0 Z1 B0 RS G1 G2 HK
  go_wp2_with fail
  go_loopw [4] (fun i wr => ∃ (k : Nat) (v : Value) (hs : List Value) (us : List (List Value)), k ≤ ds.length ∧ i = .int .i64 k ∧ Hid (Below w.heap.size w wr) ∧ Hid (wr.heap[w.heap.size]? = some (.cells #[.int .i64 d, .int .i64 p, .slice D ds.length cd, .slice A os.length ca] 25)) ∧ Hid (wr.heap[w.heap.size + 1]? = some (.cells #[.int .i64 0, .int .i64 0, .slice none 0 0, .slice none 0 0] 25)) ∧ Hid (wr.heap[gb]? = some (.cells #[.int .i64 d, .int .i64 p, v, u0] 25)) ∧ Hid (OS w.heap.size wr v hs us (ds.take k)) ∧ Hid (OO w.heap.size wr u0 os)) (fun i _ => ds.length - (intOf i).toNat)
  case atStart => exact ⟨0, _, [], [], by omega, rfl, NN0, SB0, XB0, G0, Lib.hid (by rw [List.take_zero]; exact OS.nil _ _), U0⟩
  case round =>
   clear NN0 SB0 XB0 G0 U0
   obtain ⟨k, v, hs, us, hk, rfl, NN, SB, XB, GB, O, U⟩ := hrel
   obtain ⟨wo, rfl⟩ : ∃ wo : World, wo = wr := ⟨_, rfl⟩
   have hzs := blk_lt XB.out
   have hzg := blk_lt GB.out
   have s2 : wo.cell? ⟨w.heap.size, 2, none⟩ = some (.slice D ds.length cd) := blk_cell SB.out 2 _ rfl
   by_cases hlt : k < ds.length
   ·obtain ⟨dk, hdk⟩ := get_some hlt
    obtain ⟨b, off, Ai, ci, rfl, hb9, c0, c1, h2, h3, hm⟩ := (HD.out.next NN.out).at_ hdk
    have HM := Lib.hid hm
    have HDK := Lib.hid hdk
    have HBK := Lib.hid (HBL.out dk (List.mem_of_getElem? hdk))
    have hbk := HBK.out.1
    clear hm hdk
    have k1 : (0 : Int) ≤ (k : Int) := by omega
    have k2 : (k : Int) < (ds.length : Int) := by omega
    go_wp2_with fail
    have DB0 : Hid ((wo.alloc (.cells #[.bool dk.failed, .slice none 0 0] 46)).heap[wo.heap.size]? = some (.cells #[.bool dk.failed, .slice none 0 0] 46)) := Lib.hid (blk_new _ _)
    have NI0 : Hid (Below wo.heap.size wo (wo.alloc (.cells #[.bool dk.failed, .slice none 0 0] 46))) := Lib.hid (Bal (Below.refl _ _) _)
    clear s2
    go_loopw [6] (fun i wr => ∃ (j : Nat) (x : Value) (ui : List Value), j ≤ dk.blocks.length ∧ i = .int .i64 j ∧ Hid (Below wo.heap.size wo wr) ∧ Hid (wr.heap[wo.heap.size]? = some (.cells #[.bool dk.failed, x] 46)) ∧ Hid (OMx wo.heap.size wr x ui (dk.blocks.take j))) (fun i _ => dk.blocks.length - (intOf i).toNat)
    case atStart => exact ⟨0, _, [], by omega, rfl, NI0, DB0, Lib.hid (by rw [List.take_zero]; exact OMx.nil _ _)⟩
    case round =>
     clear NI0 DB0
     obtain ⟨j, x, ui, hj, rfl, NI, Y, OI⟩ := hrel
     have s2 : wr.cell? ⟨w.heap.size, 2, none⟩ = some (.slice (some ⟨b, off, none⟩) ds.length cd) := blk_cell (blk_next NI.out SB.out) 2 _ rfl
     have c1' : wr.cell? ⟨b, off + k * 2 + 1, none⟩ = some (.slice Ai dk.blocks.length ci) := (NI.out.cell hb9).trans c1
     have hz : wo.heap.size < wr.heap.size := blk_lt Y.out
     have hz' : w.heap.size < wr.heap.size := by omega
     have hb9' : b < wr.heap.size := by omega
     by_cases hlj : j < dk.blocks.length
     ·obtain ⟨l, hl⟩ := get_some hlj
      obtain ⟨b2, off2, A3, c3, rfl, hb2, h1', h2', h3', h4⟩ := (HM.out.next NI.out).at_ hl
      have hln : l.length ≤ 100 := HBK.out.2 l (List.mem_of_getElem? hl)
      have HB4 := Lib.hid h4
      have HL := Lib.hid hl
      have TL : Hid ((dk.blocks.take j).length = j) := Lib.hid (by rw [List.length_take]; omega)
      obtain ⟨Av, cv, hv, hv1, hv2, _⟩ := own_form OI.out.top
      rw [TL.out] at hv hv1
      subst hv
      clear hl h4
      have y2 : wr.cell? ⟨wo.heap.size, 1, none⟩ = some (.slice Av j cv) := blk_cell Y.out 1 _ rfl
      have j1 : (0 : Int) ≤ (j : Int) := by omega
      have j2 : (j : Int) < (dk.blocks.length : Int) := by omega
      have TOP : Hid (wr.ownsRow wo.heap.size 26 1 (.slice Av j cv) j ui) := Lib.hid (by have := OI.out.top; rw [TL.out] at this; exact this)
      go_wp2_with fail
      go_region_law (first
       | (refine step_append_rd _ (by rfl) _ _ 26 (by rfl) wr.heap.size 5 j0 (.int .u8 0) 1 1 Try.underlying26 HJ.out.1 HJ.out.2.1 HJ.out.2.2.1 HJ.out.2.2.2 rfl (by decide) _ 0 [] (by rfl) ?_ A3 l.length c3 (bv l) (by rfl) ?_ (bv_one l) ?_ ?_ ?_ ?_; (exact own_empty (blk_new _ _) (Nat.le_refl _)); (exact (HB4.out.2.next (Bal (Below.refl _ _) _)).rd (bv_len l)); (simp only [maxLen]; omega); omega; simp; intro v1 w1 hown1 hg1 hat1; simp only [Nat.zero_add, List.nil_append] at hown1; obtain ⟨Au, cu, rfl, hu1, hu2, _⟩ := own_form hown1; have U1 : Hid (OB wr.heap.size w1 (.slice Au l.length cu) l) := Lib.hid hown1; have N1 : Hid (Below wr.heap.size wr w1) := Lib.hid (by first | exact gfresh hg1 | exact gfresh (gundrew hg1)); have Y1 := Lib.hid (blk_next N1.out Y.out); have y4 : w1.cell? ⟨wo.heap.size, 1, none⟩ = some (.slice Av j cv) := blk_cell Y1.out 1 _ rfl; have hz1 : wo.heap.size < w1.heap.size := blk_lt Y1.out; clear hown1 hg1 hat1)
       | (refine step_append_rd _ (by rfl) _ _ 44 (by rfl) wo.heap.size 26 i0 (.slice none 0 0) 1 24 Try.underlying44 HI.out.1 HI.out.2.1 HI.out.2.2.1 HI.out.2.2.2 rfl (by decide) _ j ui (by rfl) ?_ (some ⟨w1.heap.size, 0, none⟩) 1 1 [.slice Au l.length cu] (by rfl) ?_ (slice_one _ _ _) ?_ ?_ ?_ ?_; (first | exact (own_next N1.out TOP.out).alloc _ | exact ((own_next N1.out TOP.out).alloc _).drew); (exact rd_one (t := 26) (blk_new _ _)); (simp only [maxLen]; omega); omega; (first | exact NI.out.size | (have q1 := NI.out.size; have q2 := N1.out.size; simp; omega)); intro v2 w2 hown2 hg2 hat2; obtain ⟨A2, c2, rfl, g1, g2, _⟩ := own_form hown2; have G2 : Hid ((w1.alloc (.cells #[.slice Au l.length cu] 26)).grownBy w2 (Value.slice Av j cv).ownBlock) := Lib.hid (by first | exact hg2 | exact gundrew hg2); have Y2 : Hid (w2.heap[wo.heap.size]? = some (.cells #[.bool dk.failed, .slice Av j cv] 46)) := Lib.hid (gblk_ty G2.out ((own_next N1.out TOP.out).alloc _) (blk_alloc Y1.out _) ne_sl_dk); have O2 : Hid (w2.ownsRow wo.heap.size 26 1 (.slice A2 (j + 1) c2) (j + 1) (ui ++ [.slice Au l.length cu])) := Lib.hid hown2; have f2 : w2.frozen? ⟨wo.heap.size, 1, none⟩ = false := blk_frozen Y2.out 1; have y3 : w2.cell? ⟨wo.heap.size, 1, none⟩ = some (.slice Av j cv) := blk_cell Y2.out 1 _ rfl; have hz2 : wo.heap.size < w2.heap.size := blk_lt Y2.out; have N2 : Hid (Below wo.heap.size wo w2) := Lib.hid (gbel G2.out (Bal (Bgo NI.out N1.out) _) (fun g hg => (TOP.out.lt g hg).1)); clear hown2 hg2 hat2))
      all_goals
       go_wp2_with fail
       have P2 : OMx wo.heap.size w2 (.slice A2 (j + 1) c2) (ui ++ [.slice Au l.length cu]) (dk.blocks.take (j + 1)) := by
        rw [take_snoc' HL.out]
        exact OMx.push OI.out (Bal N1.out _) (U1.out.alloc _) HB4.out.1 NI.out.size (by rw [TL.out]; exact O2.out) G2.out
       have Y3 := blk_set Y2.out 1 (.slice A2 (j + 1) c2)
       refine ⟨⟨j + 1, .slice A2 (j + 1) c2, ui ++ [.slice Au l.length cu], by omega, by go_num, Lib.hid ?_, Lib.hid ?_, Lib.hid ?_⟩, by simp [intOf]; omega⟩
       ·first | exact Bset1 N2.out (by omega) 1 _ | exact (Bset1 N2.out (by omega) 1 _).drew
       ·exact Y3
       ·exact P2.set_ Y2.out ne_dk_u8 ne_dk_sl _
     ·obtain rfl : j = dk.blocks.length := by omega
      have OF : Hid (OMx wo.heap.size wr x ui dk.blocks) := Lib.hid (by have := OI.out; rw [List.take_of_length_le (Nat.le_refl _)] at this; exact this)
      have TL : Hid ((ds.take k).length = k) := Lib.hid (by rw [List.length_take]; omega)
      obtain ⟨Av, cv, hv, hv1, hv2⟩ := own_form2 O.out.top
      rw [TL.out] at hv hv1
      subst hv
      have TOP : Hid (wr.ownsRow w.heap.size 46 2 (.slice Av k cv) k (flatD (ds.take k) hs)) := Lib.hid (by have := own_next NI.out O.out.top; rw [TL.out] at this; exact this)
      have GX := Lib.hid (blk_next NI.out GB.out)
      have g2 : wr.cell? ⟨gb, 2, none⟩ = some (.slice Av k cv) := blk_cell GX.out 2 _ rfl
      have y0 : wr.cell? ⟨wo.heap.size, 0, none⟩ = some (.bool dk.failed) := blk_cell Y.out 0 _ rfl
      have y1 : wr.cell? ⟨wo.heap.size, 1, none⟩ = some x := blk_cell Y.out 1 _ rfl
      have hzx : gb < wr.heap.size := blk_lt GX.out
      go_wp2_with (at_builtin; refine wpList_append_rd _ rfl _ _ 22 rfl w.heap.size 46 m0 zD 2 32 Try.underlying22 HM0.out.1 HM0.out.2.1 HM0.out.2.2.1 HM0.out.2.2.2 rfl (by decide) _ k (flatD (ds.take k) hs) rfl (TOP.out.alloc _) (some ⟨wr.heap.size, 0, none⟩) 1 1 [.bool dk.failed, x] rfl (rd_dk (blk_new _ _)) (dk_one OF.out) (by simp only [maxLen]; omega) (by omega) (by have q := NN.out.size; have q2 := NI.out.size; simp; omega) ?_; intro v3 w3 hown3 hg3 hat3; obtain ⟨A3, c3, rfl, g3, g4⟩ := own_form2 hown3; have G3 := Lib.hid hg3; have O3 := Lib.hid hown3; have GY : Hid (w3.heap[gb]? = some (.cells #[.int .i64 d, .int .i64 p, .slice Av k cv, u0] 25)) := Lib.hid (gblk_ty hg3 (TOP.out.alloc _) (blk_alloc GX.out _) ne_dk_sto); have gf := blk_frozen GY.out 2; have gl := blk_lt GY.out; have gc := blk_cell GY.out 2 _ rfl; clear hown3 hg3 hat3)
      have P3 := OS.push O.out (Bal NI.out _) (OF.out.next (Bal (Below.refl _ _) _)) NN.out.size (by rw [TL.out]; exact O3.out) G3.out
      rw [← take_snoc' HDK.out] at P3
      have N3 : Hid (Below w.heap.size w w3) := Lib.hid (gbel G3.out (Bal (Bgo NN.out NI.out) _) (fun g hg => (TOP.out.lt g hg).1))
      have SY : Hid (w3.heap[w.heap.size]? = some (.cells #[.int .i64 d, .int .i64 p, .slice (some ⟨b, off, none⟩) ds.length cd, .slice A os.length ca] 25)) := Lib.hid (gblk_ty G3.out (TOP.out.alloc _) (blk_alloc (blk_next NI.out SB.out) _) ne_dk_sto)
      have XY : Hid (w3.heap[w.heap.size + 1]? = some (.cells #[.int .i64 0, .int .i64 0, .slice none 0 0, .slice none 0 0] 25)) := Lib.hid (gblk_ty G3.out (TOP.out.alloc _) (blk_alloc (blk_next NI.out XB.out) _) ne_dk_sto)
      have U3 : Hid (OO w.heap.size w3 u0 os) := Lib.hid (OO.kept (U.out.next (Bal NI.out _)) (TOP.out.alloc _) ne_dk_ob G3.out)
      refine ⟨⟨k + 1, .slice A3 (k + 1) c3, hs ++ [x], us ++ [ui], by omega, by go_num, Lib.hid ?_, Lib.hid ?_, Lib.hid ?_, Lib.hid ?_, Lib.hid ?_, Lib.hid ?_⟩, by simp [intOf]; omega⟩
      ·exact Bset1 N3.out (by omega) 2 _
      ·exact blk_set_other SY.out (by omega) 2 _
      ·exact blk_set_other XY.out (by omega) 2 _
      ·exact blk_set GY.out 2 _
      ·exact P3.set_ GY.out ne_sto_u8 ne_sto_sl ne_sto_dk _
      ·exact U3.out.set_ GY.out ne_sto_ob _
   ·obtain rfl : k = ds.length := by omega
    have O1 : Hid (OS w.heap.size wo v hs us ds) := Lib.hid (by have := O.out; rw [List.take_of_length_le (Nat.le_refl _)] at this; exact this)
    obtain ⟨Av, cv, rfl, hv1, hv2⟩ := own_form2 O1.out.top
    obtain ⟨Au, cu, rfl, hu1, hu2⟩ := U.out.form
    have g0 := blk_cell GB.out 0 _ rfl
    have g1 := blk_cell GB.out 1 _ rfl
    have g2 := blk_cell GB.out 2 _ rfl
    have g3 := blk_cell GB.out 3 _ rfl
    have x0 := blk_cell XB.out 0 _ rfl
    have x1 := blk_cell XB.out 1 _ rfl
    have x2 := blk_cell XB.out 2 _ rfl
    have x3 := blk_cell XB.out 3 _ rfl
    have f0 := blk_frozen XB.out 0
    have f1 := blk_frozen XB.out 1
    have f2 := blk_frozen XB.out 2
    have f3 := blk_frozen XB.out 3
    go_wp2_with fail
    have Z := blk_set4 XB.out (.int .i64 d) (.int .i64 p) (.slice Av ds.length cv) (.slice Au os.length cu)
    have e0 := blk_cell Z 0 _ rfl
    have e1 := blk_cell Z 1 _ rfl
    have e2 := blk_cell Z 2 _ rfl
    have e3 := blk_cell Z 3 _ rfl
    exact bodyPost_ret (v := Tv d p (.slice Av ds.length cv) (.slice Au os.length cu)) (by simp [results, Try.results11, go_sem, e0, e1, e2, e3]) rfl ⟨_, _, rfl, ⟨hs, us, O1.out.set4_ XB.out _ _ _ _⟩, U.out.set4_ XB.out _ _ _ _, Bset4 NN.out (by omega) _ _ _ _⟩
end Go.Proofs.Ytapehckcmmompaa
