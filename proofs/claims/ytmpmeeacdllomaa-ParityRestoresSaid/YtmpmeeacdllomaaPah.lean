/- Contracts of layer 45: copies of stripes, of the reference. -/
import Derived.Test.YtmpmeeacdllomaaPai
namespace Go.Proofs.Ytmpmeeacdllomaa
open Go.ChangeShapes Go.WideShapes Go.ChangeAt Go.RowKit Gf
set_option linter.unusedVariables false
attribute [local go_sem ↓] Go.wp_at_zero Go.wp_at_succ

/- a stripe is returned; its rows are new -/
def SPost (w : World) (s : St) (e : Ending) (w' : World) : Prop := ∃ v, e = .returned (Sv s.1 s.2.1 v) ∧ OM w.heap.size w' v s.2.2 ∧ Below w.heap.size w w'
set_option maxHeartbeats 2000000 in
theorem refTwin_calls (D M : Int) (A : Option Addr) (c B : Nat) (m : List (List Nat)) (w : World) (hn : m.length ≤ c) (hc : c ≤ 9223372036854775807) (hm : m.length ≤ 100) (hs : RMA B w A m) (hlen : ∀ l ∈ m, l.length ≤ 100) :
    Calls Try.prog 23 #[Sv D M (.slice A m.length c)] w (SPost w (D, M, m)) := by
  obtain ⟨i0, hi0, hz0, hz1, hz2⟩ := info_parts sl_info
  have HI := Lib.hid (And.intro hi0 (And.intro hz0 (And.intro hz1 hz2)))
  obtain ⟨j0, hj0, hy0, hy1, hy2⟩ := info_parts u8_info
  have HJ := Lib.hid (And.intro hj0 (And.intro hy0 (And.intro hy1 hy2)))
  clear hi0 hz0 hz1 hz2 hj0 hy0 hy1 hy2
  have HS := Lib.hid hs
  have HLEN := Lib.hid hlen
  clear hs hlen
  go_enter Try.func23, Try.ntmps23
  go_wp2_with fail
  have SB0 : Hid ((((w.alloc (.cells #[.int .i64 D, .int .i64 M, .slice A m.length c] 31)).alloc (.cells #[.int .i64 0, .int .i64 0, .slice none 0 0] 31)).alloc (.cells #[.int .i64 D, .int .i64 M, .slice none 0 0] 31)).heap[w.heap.size]? = some (.cells #[.int .i64 D, .int .i64 M, .slice A m.length c] 31)) := Lib.hid (blk_alloc (blk_alloc (blk_new w _) _) _)
  have X0 : Hid ((((w.alloc (.cells #[.int .i64 D, .int .i64 M, .slice A m.length c] 31)).alloc (.cells #[.int .i64 0, .int .i64 0, .slice none 0 0] 31)).alloc (.cells #[.int .i64 D, .int .i64 M, .slice none 0 0] 31)).heap[w.heap.size + 1]? = some (.cells #[.int .i64 0, .int .i64 0, .slice none 0 0] 31)) := Lib.hid (blk_alloc (blk_at _ (by simp)) _)
  have Y0 : Hid ((((w.alloc (.cells #[.int .i64 D, .int .i64 M, .slice A m.length c] 31)).alloc (.cells #[.int .i64 0, .int .i64 0, .slice none 0 0] 31)).alloc (.cells #[.int .i64 D, .int .i64 M, .slice none 0 0] 31)).heap[w.heap.size + 1 + 1]? = some (.cells #[.int .i64 D, .int .i64 M, .slice none 0 0] 31)) := Lib.hid (blk_at _ (by simp))
  have N0 : Hid (Below w.heap.size w (((w.alloc (.cells #[.int .i64 D, .int .i64 M, .slice A m.length c] 31)).alloc (.cells #[.int .i64 0, .int .i64 0, .slice none 0 0] 31)).alloc (.cells #[.int .i64 D, .int .i64 M, .slice none 0 0] 31))) := Lib.hid (Bal (Bal (Bal (Below.refl _ _) _) _) _)
  go_loopw [4] (fun i wr => ∃ (k : Nat) (v : Value) (us : List Value), k ≤ m.length ∧ i = .int .i64 k ∧ Hid (Below w.heap.size w wr) ∧ Hid (wr.heap[w.heap.size]? = some (.cells #[.int .i64 D, .int .i64 M, .slice A m.length c] 31)) ∧ Hid (wr.heap[w.heap.size + 1]? = some (.cells #[.int .i64 0, .int .i64 0, .slice none 0 0] 31)) ∧ Hid (wr.heap[w.heap.size + 1 + 1]? = some (.cells #[.int .i64 D, .int .i64 M, v] 31)) ∧ Hid (OMx w.heap.size wr v us (m.take k))) (fun i _ => m.length - (intOf i).toNat)
  case atStart => exact ⟨0, _, [], by omega, rfl, N0, SB0, X0, Y0, Lib.hid (by rw [List.take_zero]; exact OMx.nil _ _)⟩
  case round =>
    clear SB0 X0 Y0 N0
    obtain ⟨k, v, us, hk, rfl, N, SB, X, Y, O⟩ := hrel
    have s2 : wr.cell? ⟨w.heap.size, 2, none⟩ = some (.slice A m.length c) := blk_cell SB.out 2 _ rfl
    by_cases hlt : k < m.length
    · obtain ⟨l, hl⟩ := get_some hlt
      obtain ⟨b, off, Ai, ci, rfl, hb, h1, h2, h3, h4⟩ := (HS.out.next N.out).at_ hl
      have hln : l.length ≤ 100 := HLEN.out l (List.mem_of_getElem? hl)
      have HB4 := Lib.hid h4
      have HL := Lib.hid hl
      have TL : Hid ((m.take k).length = k) := Lib.hid (by rw [List.length_take]; omega)
      obtain ⟨Av, cv, hv, hv1, hv2, _⟩ := own_form O.out.top
      rw [TL.out] at hv hv1
      subst hv
      clear hl h4
      have y2 : wr.cell? ⟨w.heap.size + 1 + 1, 2, none⟩ = some (.slice Av k cv) := blk_cell Y.out 2 _ rfl
      have hz : w.heap.size + 1 + 1 < wr.heap.size := blk_lt Y.out
      have hz' : w.heap.size < wr.heap.size := by omega
      have k1 : (0 : Int) ≤ (k : Int) := by omega
      have k2 : (k : Int) < (m.length : Int) := by omega
      have TOP : Hid (wr.ownsRow w.heap.size 57 1 (.slice Av k cv) k us) := Lib.hid (by have := O.out.top; rw [TL.out] at this; exact this)
      go_wp2_with fail
      go_region_law (first
          | (refine step_append_rd _ (by rfl) _ _ 57 (by rfl) wr.heap.size 5 j0 (.int .u8 0) 1 1 Try.underlying57 HJ.out.1 HJ.out.2.1 HJ.out.2.2.1 HJ.out.2.2.2 rfl (by decide) _ 0 [] (by rfl) ?_ Ai l.length ci (bv l) (by rfl) ?_ (bv_one l) ?_ ?_ ?_ ?_; (exact own_empty (blk_new _ _) (Nat.le_refl _)); (exact (HB4.out.2.next (Bal (Below.refl _ _) _)).rd (bv_len l)); (simp only [maxLen]; omega); omega; simp; intro v1 w1 hown1 hg1 hat1; simp only [Nat.zero_add, List.nil_append] at hown1; obtain ⟨Au, cu, rfl, hu1, hu2, _⟩ := own_form hown1; have U1 : Hid (OB wr.heap.size w1 (.slice Au l.length cu) l) := Lib.hid hown1; have N1 : Hid (Below wr.heap.size wr w1) := Lib.hid (by first | exact gfresh hg1 | exact gfresh (gundrew hg1)); have Y1 := Lib.hid (blk_next N1.out Y.out); have y4 : w1.cell? ⟨w.heap.size + 1 + 1, 2, none⟩ = some (.slice Av k cv) := blk_cell Y1.out 2 _ rfl; have hz1 : w.heap.size + 1 + 1 < w1.heap.size := blk_lt Y1.out; clear hown1 hg1 hat1)
          | (refine step_append_rd _ (by rfl) _ _ 29 (by rfl) w.heap.size 57 i0 (.slice none 0 0) 1 24 Try.underlying29 HI.out.1 HI.out.2.1 HI.out.2.2.1 HI.out.2.2.2 rfl (by decide) _ k us (by rfl) ?_ (some ⟨w1.heap.size, 0, none⟩) 1 1 [.slice Au l.length cu] (by rfl) ?_ (slice_one _ _ _) ?_ ?_ ?_ ?_; (first | exact (own_next N1.out TOP.out).alloc _ | exact ((own_next N1.out TOP.out).alloc _).drew); (exact rd_one (t := 57) (blk_new _ _)); (simp only [maxLen]; omega); omega; (first | exact N.out.size | (have q1 := N.out.size; have q2 := N1.out.size; simp; omega)); intro v2 w2 hown2 hg2 hat2; obtain ⟨A2, c2, rfl, g1, g2, _⟩ := own_form hown2; have G2 : Hid ((w1.alloc (.cells #[.slice Au l.length cu] 57)).grownBy w2 (Value.slice Av k cv).ownBlock) := Lib.hid (by first | exact hg2 | exact gundrew hg2); have Y2 : Hid (w2.heap[w.heap.size + 1 + 1]? = some (.cells #[.int .i64 D, .int .i64 M, .slice Av k cv] 31)) := Lib.hid (gblk_ty G2.out ((own_next N1.out TOP.out).alloc _) (blk_alloc Y1.out _) ne_sl_st); have O2 : Hid (w2.ownsRow w.heap.size 57 1 (.slice A2 (k + 1) c2) (k + 1) (us ++ [.slice Au l.length cu])) := Lib.hid hown2; have f2 : w2.frozen? ⟨w.heap.size + 1 + 1, 2, none⟩ = false := blk_frozen Y2.out 2; have y3 : w2.cell? ⟨w.heap.size + 1 + 1, 2, none⟩ = some (.slice Av k cv) := blk_cell Y2.out 2 _ rfl; have X2 : Hid (w2.heap[w.heap.size + 1]? = some (.cells #[.int .i64 0, .int .i64 0, .slice none 0 0] 31)) := Lib.hid (gblk_ty G2.out ((own_next N1.out TOP.out).alloc _) (blk_alloc (blk_next N1.out X.out) _) ne_sl_st); have S2 : Hid (w2.heap[w.heap.size]? = some (.cells #[.int .i64 D, .int .i64 M, .slice (some ⟨b, off, none⟩) m.length c] 31)) := Lib.hid (gblk_ty G2.out ((own_next N1.out TOP.out).alloc _) (blk_alloc (blk_next N1.out SB.out) _) ne_sl_st); have N2 : Hid (Below w.heap.size w w2) := Lib.hid (gbel G2.out (Bal (Bgo N.out N1.out) _) (fun g hg => (TOP.out.lt g hg).1)); clear hown2 hg2 hat2))
      all_goals
        go_wp2_with fail
        have P2 : OMx w.heap.size w2 (.slice A2 (k + 1) c2) (us ++ [.slice Au l.length cu]) (m.take (k + 1)) := by
          rw [take_snoc' HL.out]
          exact OMx.push O.out (Bal N1.out _) (U1.out.alloc _) HB4.out.1 N.out.size (by rw [TL.out]; exact O2.out) G2.out
        have Y3 := blk_set Y2.out 2 (.slice A2 (k + 1) c2)
        refine ⟨⟨k + 1, .slice A2 (k + 1) c2, us ++ [.slice Au l.length cu], by omega, by go_num, Lib.hid ?_, Lib.hid ?_, Lib.hid ?_, Lib.hid ?_, Lib.hid ?_⟩, by simp [intOf]; omega⟩
        · first | exact Bset1 N2.out (by omega) 2 _ | exact (Bset1 N2.out (by omega) 2 _).drew
        · exact blk_set_other S2.out (by omega) 2 _
        · exact blk_set_other X2.out (by omega) 2 _
        · exact Y3
        · exact P2.set_ Y2.out ne_st_u8 ne_st_sl _
    · obtain rfl : k = m.length := by omega
      have O1 : Hid (OMx w.heap.size wr v us m) := Lib.hid (by have := O.out; rw [List.take_of_length_le (Nat.le_refl _)] at this; exact this)
      obtain ⟨Av, cv, rfl, hv1, hv2, _⟩ := own_form O1.out.top
      have y0 : wr.cell? ⟨w.heap.size + 1 + 1, 0, none⟩ = some (.int .i64 D) := blk_cell Y.out 0 _ rfl
      have y1 : wr.cell? ⟨w.heap.size + 1 + 1, 1, none⟩ = some (.int .i64 M) := blk_cell Y.out 1 _ rfl
      have y2 : wr.cell? ⟨w.heap.size + 1 + 1, 2, none⟩ = some (.slice Av m.length cv) := blk_cell Y.out 2 _ rfl
      have x0 : wr.cell? ⟨w.heap.size + 1, 0, none⟩ = some (.int .i64 0) := blk_cell X.out 0 _ rfl
      have x1 : wr.cell? ⟨w.heap.size + 1, 1, none⟩ = some (.int .i64 0) := blk_cell X.out 1 _ rfl
      have x2 : wr.cell? ⟨w.heap.size + 1, 2, none⟩ = some (.slice none 0 0) := blk_cell X.out 2 _ rfl
      have f0 : wr.frozen? ⟨w.heap.size + 1, 0, none⟩ = false := blk_frozen X.out 0
      have f1 : wr.frozen? ⟨w.heap.size + 1, 1, none⟩ = false := blk_frozen X.out 1
      have f2 : wr.frozen? ⟨w.heap.size + 1, 2, none⟩ = false := blk_frozen X.out 2
      go_wp2_with fail
      have Z := blk_set3 X.out (.int .i64 D) (.int .i64 M) (.slice Av m.length cv)
      have e0 := blk_cell Z 0 _ rfl
      have e1 := blk_cell Z 1 _ rfl
      have e2 := blk_cell Z 2 _ rfl
      refine bodyPost_ret (v := Sv D M (.slice Av m.length cv)) (by simp [results, Try.results23, go_sem, e0, e1, e2]) rfl ⟨_, rfl, ⟨us, ?_⟩, ?_⟩
      · exact O1.out.set3_ X.out _ _ _
      · exact Bset3 N.out (by omega) _ _ _
end Go.Proofs.Ytmpmeeacdllomaa
