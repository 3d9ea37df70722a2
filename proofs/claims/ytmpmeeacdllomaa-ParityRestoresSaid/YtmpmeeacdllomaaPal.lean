/- Contracts of layer 45: the sound stripe of some blocks, of the reference. -/
import Derived.Test.YtmpmeeacdllomaaPan
namespace Go.Proofs.Ytmpmeeacdllomaa
open Go.ChangeShapes Go.WideShapes Go.ChangeAt Go.RowKit Gf
set_option linter.unusedVariables false
attribute [local go_sem ↓] Go.wp_at_zero Go.wp_at_succ

/- an empty row that was just made -/
theorem own_empty {w : World} {g base : Nat} {e : TypeId} (h : w.heap[g]? = some (.cells #[] e)) (hb : base ≤ g) : w.ownsRow base e 1 (.slice (some ⟨g, 0, none⟩) 0 0) 0 [] :=
  ⟨rfl, .inr ⟨g, 0, #[], rfl, hb, h, Nat.le_refl _, by simp [maxLen], rfl, rfl⟩⟩
theorem gfresh {w w1 : World} {o : Obj} {n c : Nat} (hg : (w.alloc o).grownBy w1 (Value.slice (some ⟨w.heap.size, 0, none⟩) n c).ownBlock) : Below w.heap.size w w1 :=
  (Bal (Below.refl w.heap.size w) o).grown hg (by simp) (fun q hq => by cases hq; exact Nat.le_refl _)
set_option maxHeartbeats 2000000 in
theorem refMade_calls (A : Option Addr) (c B : Nat) (d : List (List Nat)) (M n : Nat) (w : World) (hn : d.length ≤ c) (hc : c ≤ 9223372036854775807) (hs : RMA B w A d) (hd0 : 0 < d.length) (hd8 : d.length ≤ 8) (hM : M ≤ 4) (hn64 : n ≤ 64) (hlen : ∀ l ∈ d, l.length = n) :
    Calls Try.prog 41 #[.slice A d.length c, .int .i64 M] w (EncPost w d M) := by
  obtain ⟨i0, hi0, hz0, hz1, hz2⟩ := info_parts sl_info
  have HI := Lib.hid (And.intro hi0 (And.intro hz0 (And.intro hz1 hz2)))
  obtain ⟨j0, hj0, hy0, hy1, hy2⟩ := info_parts u8_info
  have HJ := Lib.hid (And.intro hj0 (And.intro hy0 (And.intro hy1 hy2)))
  clear hi0 hz0 hz1 hz2 hj0 hy0 hy1 hy2
  have HS := Lib.hid hs
  have HLEN := Lib.hid hlen
  clear hs hlen
  go_enter Try.func41, Try.ntmps41
  go_wp2_with fail
  have X0 : Hid (((w.alloc (.cells #[.int .i64 0, .int .i64 0, .slice none 0 0] 31)).alloc (.cells #[.int .i64 d.length, .int .i64 M, .slice none 0 0] 31)).heap[w.heap.size]? = some (.cells #[.int .i64 0, .int .i64 0, .slice none 0 0] 31)) := Lib.hid (blk_alloc (blk_new w _) _)
  have Y0 : Hid (((w.alloc (.cells #[.int .i64 0, .int .i64 0, .slice none 0 0] 31)).alloc (.cells #[.int .i64 d.length, .int .i64 M, .slice none 0 0] 31)).heap[w.heap.size + 1]? = some (.cells #[.int .i64 d.length, .int .i64 M, .slice none 0 0] 31)) := Lib.hid (blk_at _ (by simp))
  have N0 : Hid (Below w.heap.size w ((w.alloc (.cells #[.int .i64 0, .int .i64 0, .slice none 0 0] 31)).alloc (.cells #[.int .i64 d.length, .int .i64 M, .slice none 0 0] 31))) := Lib.hid (Bal (Bal (Below.refl _ _) _) _)
  go_loopw [6] (fun i wr => ∃ (k : Nat) (v : Value) (us : List Value), k ≤ d.length ∧ i = .int .i64 k ∧ Hid (Below w.heap.size w wr) ∧ Hid (wr.heap[w.heap.size]? = some (.cells #[.int .i64 0, .int .i64 0, .slice none 0 0] 31)) ∧ Hid (wr.heap[w.heap.size + 1]? = some (.cells #[.int .i64 d.length, .int .i64 M, v] 31)) ∧ Hid (OMx w.heap.size wr v us (d.take k))) (fun i _ => d.length - (intOf i).toNat)
  case atStart => exact ⟨0, _, [], by omega, rfl, N0, X0, Y0, Lib.hid (by rw [List.take_zero]; exact OMx.nil _ _)⟩
  case round =>
    clear X0 Y0 N0
    obtain ⟨k, v, us, hk, rfl, N, X, Y, O⟩ := hrel
    by_cases hlt : k < d.length
    · obtain ⟨l, hl⟩ := get_some hlt
      obtain ⟨b, off, Ai, ci, rfl, hb, h1, h2, h3, h4⟩ := (HS.out.next N.out).at_ hl
      have hln : l.length ≤ 64 := by rw [HLEN.out l (List.mem_of_getElem? hl)]; exact hn64
      have HB4 := Lib.hid h4
      have HL := Lib.hid hl
      have TL : Hid ((d.take k).length = k) := Lib.hid (by rw [List.length_take]; omega)
      obtain ⟨Av, cv, hv, hv1, hv2, _⟩ := own_form O.out.top
      rw [TL.out] at hv hv1
      subst hv
      clear hl h4
      have y2 : wr.cell? ⟨w.heap.size + 1, 2, none⟩ = some (.slice Av k cv) := blk_cell Y.out 2 _ rfl
      have hz : w.heap.size + 1 < wr.heap.size := blk_lt Y.out
      have k1 : (0 : Int) ≤ (k : Int) := by omega
      have k2 : (k : Int) < (d.length : Int) := by omega
      have TOP : Hid (wr.ownsRow w.heap.size 57 1 (.slice Av k cv) k us) := Lib.hid (by have := O.out.top; rw [TL.out] at this; exact this)
      go_wp2_with fail
      go_region_law (first
          | (refine step_append_rd _ (by rfl) _ _ 57 (by rfl) wr.heap.size 5 j0 (.int .u8 0) 1 1 Try.underlying57 HJ.out.1 HJ.out.2.1 HJ.out.2.2.1 HJ.out.2.2.2 rfl (by decide) _ 0 [] (by rfl) ?_ Ai l.length ci (bv l) (by rfl) ?_ (bv_one l) ?_ ?_ ?_ ?_; (exact own_empty (blk_new _ _) (Nat.le_refl _)); (exact (HB4.out.2.next (Bal (Below.refl _ _) _)).rd (bv_len l)); (simp only [maxLen]; omega); omega; simp; intro v1 w1 hown1 hg1 hat1; simp only [Nat.zero_add, List.nil_append] at hown1; obtain ⟨Au, cu, rfl, hu1, hu2, _⟩ := own_form hown1; have U1 : Hid (OB wr.heap.size w1 (.slice Au l.length cu) l) := Lib.hid hown1; have N1 : Hid (Below wr.heap.size wr w1) := Lib.hid (by first | exact gfresh hg1 | exact gfresh (gundrew hg1)); have Y1 := Lib.hid (blk_next N1.out Y.out); have y4 : w1.cell? ⟨w.heap.size + 1, 2, none⟩ = some (.slice Av k cv) := blk_cell Y1.out 2 _ rfl; have hz1 : w.heap.size + 1 < w1.heap.size := blk_lt Y1.out; clear hown1 hg1 hat1)
          | (refine step_append_rd _ (by rfl) _ _ 29 (by rfl) w.heap.size 57 i0 (.slice none 0 0) 1 24 Try.underlying29 HI.out.1 HI.out.2.1 HI.out.2.2.1 HI.out.2.2.2 rfl (by decide) _ k us (by rfl) ?_ (some ⟨w1.heap.size, 0, none⟩) 1 1 [.slice Au l.length cu] (by rfl) ?_ (slice_one _ _ _) ?_ ?_ ?_ ?_; (first | exact (own_next N1.out TOP.out).alloc _ | exact ((own_next N1.out TOP.out).alloc _).drew); (exact rd_one (t := 57) (blk_new _ _)); (simp only [maxLen]; omega); omega; (first | exact N.out.size | (have q1 := N.out.size; have q2 := N1.out.size; simp; omega)); intro v2 w2 hown2 hg2 hat2; obtain ⟨A2, c2, rfl, g1, g2, _⟩ := own_form hown2; have G2 : Hid ((w1.alloc (.cells #[.slice Au l.length cu] 57)).grownBy w2 (Value.slice Av k cv).ownBlock) := Lib.hid (by first | exact hg2 | exact gundrew hg2); have Y2 : Hid (w2.heap[w.heap.size + 1]? = some (.cells #[.int .i64 d.length, .int .i64 M, .slice Av k cv] 31)) := Lib.hid (gblk_ty G2.out ((own_next N1.out TOP.out).alloc _) (blk_alloc Y1.out _) ne_sl_st); have O2 : Hid (w2.ownsRow w.heap.size 57 1 (.slice A2 (k + 1) c2) (k + 1) (us ++ [.slice Au l.length cu])) := Lib.hid hown2; have f2 : w2.frozen? ⟨w.heap.size + 1, 2, none⟩ = false := blk_frozen Y2.out 2; have y3 : w2.cell? ⟨w.heap.size + 1, 2, none⟩ = some (.slice Av k cv) := blk_cell Y2.out 2 _ rfl; have X2 : Hid (w2.heap[w.heap.size]? = some (.cells #[.int .i64 0, .int .i64 0, .slice none 0 0] 31)) := Lib.hid (gblk_ty G2.out ((own_next N1.out TOP.out).alloc _) (blk_alloc (blk_next N1.out X.out) _) ne_sl_st); have N2 : Hid (Below w.heap.size w w2) := Lib.hid (gbel G2.out (Bal (Bgo N.out N1.out) _) (fun g hg => (TOP.out.lt g hg).1)); clear hown2 hg2 hat2))
      all_goals
        go_wp2_with fail
        have P2 : OMx w.heap.size w2 (.slice A2 (k + 1) c2) (us ++ [.slice Au l.length cu]) (d.take (k + 1)) := by
          rw [take_snoc' HL.out]
          exact OMx.push O.out (Bal N1.out _) (U1.out.alloc _) HB4.out.1 N.out.size (by rw [TL.out]; exact O2.out) G2.out
        have Y3 := blk_set Y2.out 2 (.slice A2 (k + 1) c2)
        refine ⟨⟨k + 1, .slice A2 (k + 1) c2, us ++ [.slice Au l.length cu], by omega, by go_num, Lib.hid ?_, Lib.hid ?_, Lib.hid ?_, Lib.hid ?_⟩, by simp [intOf]; omega⟩
        · first | exact Bset1 N2.out (by omega) 2 _ | exact (Bset1 N2.out (by omega) 2 _).drew
        · exact blk_set_other X2.out (by omega) 2 _
        · exact Y3
        · exact P2.set_ Y2.out ne_st_u8 ne_st_sl _
    · obtain rfl : k = d.length := by omega
      have O1 : Hid (OMx w.heap.size wr v us (d ++ (List.range 0).map (par d))) := Lib.hid (by have := O.out; rw [List.take_of_length_le (Nat.le_refl _)] at this; simpa using this)
      obtain ⟨w0, rfl⟩ : ∃ w0 : World, w0 = wr := ⟨_, rfl⟩
      clear O hlt hk
      go_wp2_with fail
      go_loopw [7] (fun i wr => ∃ (k : Nat) (v : Value) (us : List Value), k ≤ M ∧ i = .int .i64 k ∧ Hid (Below w.heap.size w wr) ∧ Hid (wr.heap[w.heap.size]? = some (.cells #[.int .i64 0, .int .i64 0, .slice none 0 0] 31)) ∧ Hid (wr.heap[w.heap.size + 1]? = some (.cells #[.int .i64 d.length, .int .i64 M, v] 31)) ∧ Hid (OMx w.heap.size wr v us (d ++ (List.range k).map (par d)))) (fun i _ => M - (intOf i).toNat)
      case atStart => exact ⟨0, v, us, by omega, rfl, N, X, Y, O1⟩
      case round =>
        clear N X Y O1 v us
        obtain ⟨j, v, us, hj, rfl, N, X, Y, O⟩ := hrel
        by_cases hlt : j < M
        · obtain ⟨Av, cv, hv, hv1, hv2, _⟩ := own_form O.out.top
          have VL : Hid ((d ++ (List.range j).map (par d)).length = d.length + j) := Lib.hid (by simp)
          rw [VL.out] at hv hv1
          subst hv
          have PC := Lib.hid (fun W (hw : Below wr.heap.size wr W) => refParity_calls A c B d j n W hn hc (HS.out.next (Bgo N.out hw)) hd0 hd8 (by omega) hn64 HLEN.out)
          have y2 : wr.cell? ⟨w.heap.size + 1, 2, none⟩ = some (.slice Av (d.length + j) cv) := blk_cell Y.out 2 _ rfl
          have TOP : Hid (wr.ownsRow w.heap.size 57 1 (.slice Av (d.length + j) cv) (d.length + j) us) := Lib.hid (by have := O.out.top; rw [VL.out] at this; exact this)
          have hz : w.heap.size + 1 < wr.heap.size := blk_lt Y.out
          have PL : Hid ((par d j).length ≤ 64) := Lib.hid (by
            obtain ⟨s0, hs0⟩ := get_some hd0
            unfold par
            rw [parTo_len, getD_of hs0, HLEN.out s0 (List.mem_of_getElem? hs0)]; exact hn64)
          go_wp2_with fail
          go_region_law (first
            | (refine step_append_rd _ (by rfl) _ _ 29 (by rfl) w.heap.size 57 i0 (.slice none 0 0) 1 24 Try.underlying29 HI.out.1 HI.out.2.1 HI.out.2.2.1 HI.out.2.2.2 rfl (by decide) _ (d.length + j) us (by rfl) ?_ (some ⟨w1.heap.size, 0, none⟩) 1 1 [.slice Au (par d j).length cu] (by rfl) ?_ (slice_one _ _ _) ?_ ?_ ?_ ?_; (first | exact (own_next N1.out TOP.out).alloc _ | exact ((own_next N1.out TOP.out).alloc _).drew); (exact rd_one (t := 57) (blk_new _ _)); (simp only [maxLen]; omega); omega; (first | exact N.out.size | (have q1 := N.out.size; have q2 := N1.out.size; simp; omega)); intro v2 w2 hown2 hg2 hat2; obtain ⟨A2, c2, rfl, g1, g2, _⟩ := own_form hown2; have G2 : Hid ((w1.alloc (.cells #[.slice Au (par d j).length cu] 57)).grownBy w2 (Value.slice Av (d.length + j) cv).ownBlock) := Lib.hid (by first | exact hg2 | exact gundrew hg2); have Y2 : Hid (w2.heap[w.heap.size + 1]? = some (.cells #[.int .i64 d.length, .int .i64 M, .slice Av (d.length + j) cv] 31)) := Lib.hid (gblk_ty G2.out ((own_next N1.out TOP.out).alloc _) (blk_alloc Y1.out _) ne_sl_st); have O2 : Hid (w2.ownsRow w.heap.size 57 1 (.slice A2 (d.length + j + 1) c2) (d.length + j + 1) (us ++ [.slice Au (par d j).length cu])) := Lib.hid hown2; have f2 : w2.frozen? ⟨w.heap.size + 1, 2, none⟩ = false := blk_frozen Y2.out 2; have y3 : w2.cell? ⟨w.heap.size + 1, 2, none⟩ = some (.slice Av (d.length + j) cv) := blk_cell Y2.out 2 _ rfl; have X2 : Hid (w2.heap[w.heap.size]? = some (.cells #[.int .i64 0, .int .i64 0, .slice none 0 0] 31)) := Lib.hid (gblk_ty G2.out ((own_next N1.out TOP.out).alloc _) (blk_alloc (blk_next N1.out X.out) _) ne_sl_st); have N2 : Hid (Below w.heap.size w w2) := Lib.hid (gbel G2.out (Bal (Bgo N.out N1.out) _) (fun g hg => (TOP.out.lt g hg).1)); clear hown2 hg2 hat2)
            | (go_simp; go_at_call 53; refine (PC.out _ ?_).mono ?_; (first | exact Below.refl _ _ | exact (Below.refl _ _).drew); rintro e w1 ⟨u, rfl, hu, hb1⟩; obtain ⟨Au, cu, rfl, hu1, hu2, _⟩ := own_form hu; have U1 : Hid (OB wr.heap.size w1 (.slice Au (par d j).length cu) (par d j)) := Lib.hid hu; have N1 : Hid (Below wr.heap.size wr w1) := Lib.hid (by first | exact hb1 | exact (Below.refl _ _).drew.trans hb1); have Y1 := Lib.hid (blk_next N1.out Y.out); have y4 : w1.cell? ⟨w.heap.size + 1, 2, none⟩ = some (.slice Av (d.length + j) cv) := blk_cell Y1.out 2 _ rfl; have hz1 : w.heap.size + 1 < w1.heap.size := blk_lt Y1.out; clear hu hb1))
          all_goals
            go_wp2_with fail
            have P2 : OMx w.heap.size w2 (.slice A2 (d.length + j + 1) c2) (us ++ [.slice Au (par d j).length cu]) (d ++ (List.range (j + 1)).map (par d)) := by
              rw [List.range_succ, List.map_append, ← List.append_assoc]
              exact OMx.push O.out (Bal N1.out _) (l := par d j) (U1.out.alloc _) (par_byt hd8 (by omega)) N.out.size (by rw [VL.out]; exact O2.out) G2.out
            have Y3 := blk_set Y2.out 2 (.slice A2 (d.length + j + 1) c2)
            refine ⟨⟨j + 1, .slice A2 (d.length + j + 1) c2, us ++ [.slice Au (par d j).length cu], by omega, by go_num, Lib.hid ?_, Lib.hid ?_, Lib.hid ?_, Lib.hid ?_⟩, by simp [intOf]; omega⟩
            · first | exact Bset1 N2.out (by omega) 2 _ | exact (Bset1 N2.out (by omega) 2 _).drew
            · exact blk_set_other X2.out (by omega) 2 _
            · exact Y3
            · exact P2.set_ Y2.out ne_st_u8 ne_st_sl _
        · obtain rfl : j = M := by omega
          obtain ⟨Av, cv, rfl, hv1, hv2, _⟩ := own_form O.out.top
          have y0 : wr.cell? ⟨w.heap.size + 1, 0, none⟩ = some (.int .i64 d.length) := blk_cell Y.out 0 _ rfl
          have y1 : wr.cell? ⟨w.heap.size + 1, 1, none⟩ = some (.int .i64 j) := blk_cell Y.out 1 _ rfl
          have y2 := blk_cell Y.out 2 _ rfl
          have x0 : wr.cell? ⟨w.heap.size, 0, none⟩ = some (.int .i64 0) := blk_cell X.out 0 _ rfl
          have x1 : wr.cell? ⟨w.heap.size, 1, none⟩ = some (.int .i64 0) := blk_cell X.out 1 _ rfl
          have x2 : wr.cell? ⟨w.heap.size, 2, none⟩ = some (.slice none 0 0) := blk_cell X.out 2 _ rfl
          have f0 : wr.frozen? ⟨w.heap.size, 0, none⟩ = false := blk_frozen X.out 0
          have f1 : wr.frozen? ⟨w.heap.size, 1, none⟩ = false := blk_frozen X.out 1
          have f2 : wr.frozen? ⟨w.heap.size, 2, none⟩ = false := blk_frozen X.out 2
          go_wp2_with fail
          have VL : (d ++ (List.range j).map (par d)).length = d.length + j := by simp
          have OF := O.out
          rw [VL] at OF
          have Z := blk_set3 X.out (.int .i64 (d.length : Int)) (.int .i64 (j : Int)) (.slice Av (d.length + j) cv)
          have e0 := blk_cell Z 0 _ rfl
          have e1 := blk_cell Z 1 _ rfl
          have e2 := blk_cell Z 2 _ rfl
          refine bodyPost_ret (v := Sv (d.length : Int) (j : Int) (.slice Av (d.length + j) cv)) (by simp [results, Try.results41, go_sem, e0, e1, e2]) rfl ⟨_, rfl, ⟨us, ?_⟩, ?_⟩
          · exact OF.set3_ X.out _ _ _
          · exact Bset3 N.out (Nat.le_refl _) _ _ _
end Go.Proofs.Ytmpmeeacdllomaa
