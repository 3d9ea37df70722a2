/- Several texts in one. -/
import Derived.Test.YtapehckcmmompaaM01
namespace Go.Proofs.Ytapehckcmmompaa
open Go.ChangeShapes Go.WideShapes Go.ChangeAt Go.RowKit Gf
set_option linter.unusedVariables false
set_option maxRecDepth 100000
attribute [local go_sem ↓] Go.wp_at_zero Go.wp_at_succ
theorem own_empty {w : World} {g base : Nat} {e : TypeId} (h : w.heap[g]? = some (.cells #[] e)) (hb : base ≤ g) : w.ownsRow base e 1 (.slice (some ⟨g, 0, none⟩) 0 0) 0 [] :=
 ⟨rfl, .inr ⟨g, 0, #[], rfl, hb, h, Nat.le_refl _, by simp [maxLen], rfl, rfl⟩⟩
theorem gfresh {w w1 : World} {o : Obj} {n c : Nat} (hg : (w.alloc o).grownBy w1 (Value.slice (some ⟨w.heap.size, 0, none⟩) n c).ownBlock) : Below w.heap.size w w1 :=
 (Bal (Below.refl w.heap.size w) o).grown hg (by simp) (fun q hq => by cases hq; exact Nat.le_refl _)
set_option maxHeartbeats 2000000 in
theorem refMade_calls (A : Option Addr) (c B : Nat) (d : List (List Nat)) (M n : Nat) (w : World) (hn : d.length ≤ c) (hc : c ≤ 9223372036854775807) (hs : RMA B w A d) (hd0 : 0 < d.length) (hd8 : d.length ≤ 8) (hM : M ≤ 4) (hn64 : n ≤ 64) (hlen : ∀ l ∈ d, l.length = n) :
  Calls Try.prog 65 #[.slice A d.length c, .int .i64 M] w (EncPost w d M) := by
 obtain ⟨i0, hi0, hz0, hz1, hz2⟩ := info_parts sl_info
 have HI := Lib.hid (And.intro hi0 (And.intro hz0 (And.intro hz1 hz2)))
 obtain ⟨j0, hj0, hy0, hy1, hy2⟩ := info_parts u8_info
 have HJ := Lib.hid (And.intro hj0 (And.intro hy0 (And.intro hy1 hy2)))
 clear hi0 hz0 hz1 hz2 hj0 hy0 hy1 hy2
 have HS := Lib.hid hs
 have HLEN := Lib.hid hlen
 clear hs hlen
 go_enter Try.func65, Try.ntmps65
 go_wp2_with fail
 have X0 : Hid (((w.alloc (.cells #[.int .i64 0, .int .i64 0, .slice none 0 0] 54)).alloc (.cells #[.int .i64 d.length, .int .i64 M, .slice none 0 0] 54)).heap[w.heap.size]? = some (.cells #[.int .i64 0, .int .i64 0, .slice none 0 0] 54)) := Lib.hid (blk_alloc (blk_new w _) _)
 have Y0 : Hid (((w.alloc (.cells #[.int .i64 0, .int .i64 0, .slice none 0 0] 54)).alloc (.cells #[.int .i64 d.length, .int .i64 M, .slice none 0 0] 54)).heap[w.heap.size + 1]? = some (.cells #[.int .i64 d.length, .int .i64 M, .slice none 0 0] 54)) := Lib.hid (blk_at _ (by simp))
 have N0 : Hid (Below w.heap.size w ((w.alloc (.cells #[.int .i64 0, .int .i64 0, .slice none 0 0] 54)).alloc (.cells #[.int .i64 d.length, .int .i64 M, .slice none 0 0] 54))) := Lib.hid (Bal (Bal (Below.refl _ _) _) _)
 go_loopw [6] (fun i wr => ∃ (k : Nat) (v : Value) (us : List Value), k ≤ d.length ∧ i = .int .i64 k ∧ Hid (Below w.heap.size w wr) ∧ Hid (wr.heap[w.heap.size]? = some (.cells #[.int .i64 0, .int .i64 0, .slice none 0 0] 54)) ∧ Hid (wr.heap[w.heap.size + 1]? = some (.cells #[.int .i64 d.length, .int .i64 M, v] 54)) ∧ Hid (OMx w.heap.size wr v us (d.take k))) (fun i _ => d.length - (intOf i).toNat)
 case atStart => exact ⟨0, _, [], by omega, rfl, N0, X0, Y0, Lib.hid (by rw [List.take_zero]; exact OMx.nil _ _)⟩
 case round =>
  clear X0 Y0 N0
  obtain ⟨k, v, us, hk, rfl, N, X, Y, O⟩ := hrel
  by_cases hlt : k < d.length
  ·obtain ⟨l, hl⟩ := get_some hlt
   obtain ⟨b, off, Ai, ci, rfl, hb, h1, h2, h3, h4⟩ := (HS.out.next N.out).at_ hl
   have hln : l.length ≤ 64 := by rw [HLEN.out l (List.mem_of_getElem? hl)]; exact hn64
   have HB4 := Lib.hid h4
   have HL := Lib.hid hl
   have TL : Hid ((d.take k).length = k) := Lib.hid (by rw [List.length_take]; omega)
   obtain ⟨Av, cv, hv, hv1, hv2, _⟩ := own_form O.out.top
   rw [TL.out] at hv hv1
   subst hv
   clear hl h4
   have y2 : wr.cell? ⟨w.heap.size + 1, 2, none⟩ = some (.slice Av k cv) := blk_cell Y.out 2 _ rfl
   have hz : w.heap.size + 1 < wr.heap.size := blk_lt Y.out
   have k1 : (0 : Int) ≤ (k : Int) := by omega
   have k2 : (k : Int) < (d.length : Int) := by omega
   have TOP : Hid (wr.ownsRow w.heap.size 26 1 (.slice Av k cv) k us) := Lib.hid (by have := O.out.top; rw [TL.out] at this; exact this)
   go_wp2_with fail
   go_region_law (first
     | (refine step_append_rd _ (by rfl) _ _ 26 (by rfl) wr.heap.size 5 j0 (.int .u8 0) 1 1 Try.underlying26 HJ.out.1 HJ.out.2.1 HJ.out.2.2.1 HJ.out.2.2.2 rfl (by decide) _ 0 [] (by rfl) ?_ Ai l.length ci (bv l) (by rfl) ?_ (bv_one l) ?_ ?_ ?_ ?_; (exact own_empty (blk_new _ _) (Nat.le_refl _)); (exact (HB4.out.2.next (Bal (Below.refl _ _) _)).rd (bv_len l)); (simp only [maxLen]; omega); omega; simp; intro v1 w1 hown1 hg1 hat1; simp only [Nat.zero_add, List.nil_append] at hown1; obtain ⟨Au, cu, rfl, hu1, hu2, _⟩ := own_form hown1; have U1 : Hid (OB wr.heap.size w1 (.slice Au l.length cu) l) := Lib.hid hown1; have N1 : Hid (Below wr.heap.size wr w1) := Lib.hid (by first | exact gfresh hg1 | exact gfresh (gundrew hg1)); have Y1 := Lib.hid (blk_next N1.out Y.out); have y4 : w1.cell? ⟨w.heap.size + 1, 2, none⟩ = some (.slice Av k cv) := blk_cell Y1.out 2 _ rfl; have hz1 : w.heap.size + 1 < w1.heap.size := blk_lt Y1.out; clear hown1 hg1 hat1)
     | (refine step_append_rd _ (by rfl) _ _ 44 (by rfl) w.heap.size 26 i0 (.slice none 0 0) 1 24 Try.underlying44 HI.out.1 HI.out.2.1 HI.out.2.2.1 HI.out.2.2.2 rfl (by decide) _ k us (by rfl) ?_ (some ⟨w1.heap.size, 0, none⟩) 1 1 [.slice Au l.length cu] (by rfl) ?_ (slice_one _ _ _) ?_ ?_ ?_ ?_; (first | exact (own_next N1.out TOP.out).alloc _ | exact ((own_next N1.out TOP.out).alloc _).drew); (exact rd_one (t := 26) (blk_new _ _)); (simp only [maxLen]; omega); omega; (first | exact N.out.size | (have q1 := N.out.size; have q2 := N1.out.size; simp; omega)); intro v2 w2 hown2 hg2 hat2; obtain ⟨A2, c2, rfl, g1, g2, _⟩ := own_form hown2; have G2 : Hid ((w1.alloc (.cells #[.slice Au l.length cu] 26)).grownBy w2 (Value.slice Av k cv).ownBlock) := Lib.hid (by first | exact hg2 | exact gundrew hg2); have Y2 : Hid (w2.heap[w.heap.size + 1]? = some (.cells #[.int .i64 d.length, .int .i64 M, .slice Av k cv] 54)) := Lib.hid (gblk_ty G2.out ((own_next N1.out TOP.out).alloc _) (blk_alloc Y1.out _) ne_sl_st); have O2 : Hid (w2.ownsRow w.heap.size 26 1 (.slice A2 (k + 1) c2) (k + 1) (us ++ [.slice Au l.length cu])) := Lib.hid hown2; have f2 : w2.frozen? ⟨w.heap.size + 1, 2, none⟩ = false := blk_frozen Y2.out 2; have y3 : w2.cell? ⟨w.heap.size + 1, 2, none⟩ = some (.slice Av k cv) := blk_cell Y2.out 2 _ rfl; have X2 : Hid (w2.heap[w.heap.size]? = some (.cells #[.int .i64 0, .int .i64 0, .slice none 0 0] 54)) := Lib.hid (gblk_ty G2.out ((own_next N1.out TOP.out).alloc _) (blk_alloc (blk_next N1.out X.out) _) ne_sl_st); have N2 : Hid (Below w.heap.size w w2) := Lib.hid (gbel G2.out (Bal (Bgo N.out N1.out) _) (fun g hg => (TOP.out.lt g hg).1)); clear hown2 hg2 hat2))
   all_goals
    go_wp2_with fail
    have P2 : OMx w.heap.size w2 (.slice A2 (k + 1) c2) (us ++ [.slice Au l.length cu]) (d.take (k + 1)) := by
     rw [take_snoc' HL.out]
     exact OMx.push O.out (Bal N1.out _) (U1.out.alloc _) HB4.out.1 N.out.size (by rw [TL.out]; exact O2.out) G2.out
    have Y3 := blk_set Y2.out 2 (.slice A2 (k + 1) c2)
    refine ⟨⟨k + 1, .slice A2 (k + 1) c2, us ++ [.slice Au l.length cu], by omega, by go_num, Lib.hid ?_, Lib.hid ?_, Lib.hid ?_, Lib.hid ?_⟩, by simp [intOf]; omega⟩
    ·first | exact Bset1 N2.out (by omega) 2 _ | exact (Bset1 N2.out (by omega) 2 _).drew
    ·exact blk_set_other X2.out (by omega) 2 _
    ·exact Y3
    ·exact P2.set_ Y2.out ne_st_u8 ne_st_sl _
  ·obtain rfl : k = d.length := by omega
   have O1 : Hid (OMx w.heap.size wr v us (d ++ (List.range 0).map (par d))) := Lib.hid (by have := O.out; rw [List.take_of_length_le (Nat.le_refl _)] at this; simpa using this)
   obtain ⟨w0, rfl⟩ : ∃ w0 : World, w0 = wr := ⟨_, rfl⟩
   clear O hlt hk
   go_wp2_with fail
   go_loopw [7] (fun i wr => ∃ (k : Nat) (v : Value) (us : List Value), k ≤ M ∧ i = .int .i64 k ∧ Hid (Below w.heap.size w wr) ∧ Hid (wr.heap[w.heap.size]? = some (.cells #[.int .i64 0, .int .i64 0, .slice none 0 0] 54)) ∧ Hid (wr.heap[w.heap.size + 1]? = some (.cells #[.int .i64 d.length, .int .i64 M, v] 54)) ∧ Hid (OMx w.heap.size wr v us (d ++ (List.range k).map (par d)))) (fun i _ => M - (intOf i).toNat)
   case atStart => exact ⟨0, v, us, by omega, rfl, N, X, Y, O1⟩
   case round =>
    clear N X Y O1 v us
    obtain ⟨j, v, us, hj, rfl, N, X, Y, O⟩ := hrel
    by_cases hlt : j < M
    ·obtain ⟨Av, cv, hv, hv1, hv2, _⟩ := own_form O.out.top
     have VL : Hid ((d ++ (List.range j).map (par d)).length = d.length + j) := Lib.hid (by simp)
     rw [VL.out] at hv hv1
     subst hv
     have PC := Lib.hid (fun W (hw : Below wr.heap.size wr W) => refParity_calls A c B d j n W hn hc (HS.out.next (Bgo N.out hw)) hd0 hd8 (by omega) hn64 HLEN.out)
     have y2 : wr.cell? ⟨w.heap.size + 1, 2, none⟩ = some (.slice Av (d.length + j) cv) := blk_cell Y.out 2 _ rfl
     have TOP : Hid (wr.ownsRow w.heap.size 26 1 (.slice Av (d.length + j) cv) (d.length + j) us) := Lib.hid (by have := O.out.top; rw [VL.out] at this; exact this)
     have hz : w.heap.size + 1 < wr.heap.size := blk_lt Y.out
     have PL : Hid ((par d j).length ≤ 64) := Lib.hid (by
      obtain ⟨s0, hs0⟩ := get_some hd0
      unfold par
      rw [parTo_len, getD_of hs0, HLEN.out s0 (List.mem_of_getElem? hs0)]; exact hn64)
     go_wp2_with fail
     go_region_law (first
      | (refine step_append_rd _ (by rfl) _ _ 44 (by rfl) w.heap.size 26 i0 (.slice none 0 0) 1 24 Try.underlying44 HI.out.1 HI.out.2.1 HI.out.2.2.1 HI.out.2.2.2 rfl (by decide) _ (d.length + j) us (by rfl) ?_ (some ⟨w1.heap.size, 0, none⟩) 1 1 [.slice Au (par d j).length cu] (by rfl) ?_ (slice_one _ _ _) ?_ ?_ ?_ ?_; (first | exact (own_next N1.out TOP.out).alloc _ | exact ((own_next N1.out TOP.out).alloc _).drew); (exact rd_one (t := 26) (blk_new _ _)); (simp only [maxLen]; omega); omega; (first | exact N.out.size | (have q1 := N.out.size; have q2 := N1.out.size; simp; omega)); intro v2 w2 hown2 hg2 hat2; obtain ⟨A2, c2, rfl, g1, g2, _⟩ := own_form hown2; have G2 : Hid ((w1.alloc (.cells #[.slice Au (par d j).length cu] 26)).grownBy w2 (Value.slice Av (d.length + j) cv).ownBlock) := Lib.hid (by first | exact hg2 | exact gundrew hg2); have Y2 : Hid (w2.heap[w.heap.size + 1]? = some (.cells #[.int .i64 d.length, .int .i64 M, .slice Av (d.length + j) cv] 54)) := Lib.hid (gblk_ty G2.out ((own_next N1.out TOP.out).alloc _) (blk_alloc Y1.out _) ne_sl_st); have O2 : Hid (w2.ownsRow w.heap.size 26 1 (.slice A2 (d.length + j + 1) c2) (d.length + j + 1) (us ++ [.slice Au (par d j).length cu])) := Lib.hid hown2; have f2 : w2.frozen? ⟨w.heap.size + 1, 2, none⟩ = false := blk_frozen Y2.out 2; have y3 : w2.cell? ⟨w.heap.size + 1, 2, none⟩ = some (.slice Av (d.length + j) cv) := blk_cell Y2.out 2 _ rfl; have X2 : Hid (w2.heap[w.heap.size]? = some (.cells #[.int .i64 0, .int .i64 0, .slice none 0 0] 54)) := Lib.hid (gblk_ty G2.out ((own_next N1.out TOP.out).alloc _) (blk_alloc (blk_next N1.out X.out) _) ne_sl_st); have N2 : Hid (Below w.heap.size w w2) := Lib.hid (gbel G2.out (Bal (Bgo N.out N1.out) _) (fun g hg => (TOP.out.lt g hg).1)); clear hown2 hg2 hat2)
      | (go_simp; go_at_call 83; refine (PC.out _ ?_).mono ?_; (first | exact Below.refl _ _ | exact (Below.refl _ _).drew); rintro e w1 ⟨u, rfl, hu, hb1⟩; obtain ⟨Au, cu, rfl, hu1, hu2, _⟩ := own_form hu; have U1 : Hid (OB wr.heap.size w1 (.slice Au (par d j).length cu) (par d j)) := Lib.hid hu; have N1 : Hid (Below wr.heap.size wr w1) := Lib.hid (by first | exact hb1 | exact (Below.refl _ _).drew.trans hb1); have Y1 := Lib.hid (blk_next N1.out Y.out); have y4 : w1.cell? ⟨w.heap.size + 1, 2, none⟩ = some (.slice Av (d.length + j) cv) := blk_cell Y1.out 2 _ rfl; have hz1 : w.heap.size + 1 < w1.heap.size := blk_lt Y1.out; clear hu hb1))
     all_goals
      go_wp2_with fail
      have P2 : OMx w.heap.size w2 (.slice A2 (d.length + j + 1) c2) (us ++ [.slice Au (par d j).length cu]) (d ++ (List.range (j + 1)).map (par d)) := by
       rw [List.range_succ, List.map_append, ← List.append_assoc]
       exact OMx.push O.out (Bal N1.out _) (l := par d j) (U1.out.alloc _) (par_byt hd8 (by omega)) N.out.size (by rw [VL.out]; exact O2.out) G2.out
      have Y3 := blk_set Y2.out 2 (.slice A2 (d.length + j + 1) c2)
      refine ⟨⟨j + 1, .slice A2 (d.length + j + 1) c2, us ++ [.slice Au (par d j).length cu], by omega, by go_num, Lib.hid ?_, Lib.hid ?_, Lib.hid ?_, Lib.hid ?_⟩, by simp [intOf]; omega⟩
      ·first | exact Bset1 N2.out (by omega) 2 _ | exact (Bset1 N2.out (by omega) 2 _).drew
      ·exact blk_set_other X2.out (by omega) 2 _
      ·exact Y3
      ·exact P2.set_ Y2.out ne_st_u8 ne_st_sl _
    ·obtain rfl : j = M := by omega
     obtain ⟨Av, cv, rfl, hv1, hv2, _⟩ := own_form O.out.top
     have y0 : wr.cell? ⟨w.heap.size + 1, 0, none⟩ = some (.int .i64 d.length) := blk_cell Y.out 0 _ rfl
     have y1 : wr.cell? ⟨w.heap.size + 1, 1, none⟩ = some (.int .i64 j) := blk_cell Y.out 1 _ rfl
     have y2 := blk_cell Y.out 2 _ rfl
     have x0 : wr.cell? ⟨w.heap.size, 0, none⟩ = some (.int .i64 0) := blk_cell X.out 0 _ rfl
     have x1 : wr.cell? ⟨w.heap.size, 1, none⟩ = some (.int .i64 0) := blk_cell X.out 1 _ rfl
     have x2 : wr.cell? ⟨w.heap.size, 2, none⟩ = some (.slice none 0 0) := blk_cell X.out 2 _ rfl
     have f0 : wr.frozen? ⟨w.heap.size, 0, none⟩ = false := blk_frozen X.out 0
     have f1 : wr.frozen? ⟨w.heap.size, 1, none⟩ = false := blk_frozen X.out 1
     have f2 : wr.frozen? ⟨w.heap.size, 2, none⟩ = false := blk_frozen X.out 2
     go_wp2_with fail
     have VL : (d ++ (List.range j).map (par d)).length = d.length + j := by simp
     have OF := O.out
     rw [VL] at OF
     have Z := blk_set3 X.out (.int .i64 (d.length : Int)) (.int .i64 (j : Int)) (.slice Av (d.length + j) cv)
     have e0 := blk_cell Z 0 _ rfl
     have e1 := blk_cell Z 1 _ rfl
     have e2 := blk_cell Z 2 _ rfl
     refine bodyPost_ret (v := Sv (d.length : Int) (j : Int) (.slice Av (d.length + j) cv)) (by simp [results, Try.results65, go_sem, e0, e1, e2]) rfl ⟨_, rfl, ⟨us, ?_⟩, ?_⟩
     ·exact OF.set3_ X.out _ _ _
     ·exact Bset3 N.out (Nat.le_refl _) _ _ _
end Go.Proofs.Ytapehckcmmompaa
namespace Go.Proofs.Ytapehckcmmompaa
open Go.ChangeShapes Go.WideShapes Go.ChangeAt Go.RowKit Gf
set_option linter.unusedVariables false
set_option maxRecDepth 100000
attribute [local go_sem ↓] Go.wp_at_zero Go.wp_at_succ
theorem RBA.drewN {B : Nat} {w : World} {A : Option Addr} {l : List Nat} (h : RBA B w A l) (n : Nat) : RBA B (w.drewN n) A l := h
theorem bstr_ne {l l' : List Nat} (h : Byt l) (h' : Byt l') : ((bstr l).toList != (bstr l').toList) = !decide (l = l') := by rw [bne, bstr_eq h h']
theorem ext_take {m m' : List (List Nat)} (hl : m.length = m'.length) (h : ∀ (j : Nat) (l l' : List Nat), m[j]? = some l → m'[j]? = some l' → l = l') : m = m' := by
 apply List.ext_getElem?
 intro i
 by_cases hi : i < m.length
 ·obtain ⟨l, e⟩ := get_some hi
  obtain ⟨l', e'⟩ := get_some (show i < m'.length by omega)
  rw [e, e', h i l l' e e']
 ·rw [List.getElem?_eq_none (by omega), List.getElem?_eq_none (by omega)]
set_option maxHeartbeats 1000000 in
theorem refSame_calls (D M : Int) (A : Option Addr) (c B : Nat) (m : List (List Nat)) (D' M' : Int) (A' : Option Addr) (c' B' : Nat) (m' : List (List Nat)) (w : World) (hn : m.length ≤ c) (hc : c ≤ 9223372036854775807) (hs : RMA B w A m) (hn' : m'.length ≤ c') (hc' : c' ≤ 9223372036854775807) (hs' : RMA B' w A' m') :
  Calls Try.prog 87 #[Sv D M (.slice A m.length c), Sv D' M' (.slice A' m'.length c')] w fun e w' => e = .returned (.bool (decide ((D, M, m) = (D', M', m')))) ∧ Below w.heap.size w w' := by
 generalize hv : decide ((D, M, m) = (D', M', m')) = v
 have HV := Lib.hid hv
 have HS := Lib.hid hs
 have HS' := Lib.hid hs'
 clear hs hs' hv
 have no : (D ≠ D' ∨ M ≠ M' ∨ m ≠ m') → v = false := fun h => by
  rw [← HV.out, decide_eq_false_iff_not]
  intro e
  simp only [Prod.mk.injEq] at e
  rcases h with h | h | h
  ·exact h e.1
  ·exact h e.2.1
  ·exact h e.2.2
 have NO := Lib.hid no
 clear no
 by_cases c1 : D = D'
 ·by_cases c2 : M = M'
  ·by_cases c3 : m.length = m'.length
   ·have q1 : (D != D') = false := by rw [c1]; simp
    have q2 : (M != M') = false := by rw [c2]; simp
    have q3 : ((m.length : Int) != (m'.length : Int)) = false := by rw [c3]; simp
    have C1 := Lib.hid c1
    have C2 := Lib.hid c2
    have C3 := Lib.hid c3
    clear c1 c2 c3
    go_enter Try.func87, Try.ntmps87
    go_wp2_with fail
    have X0 : Hid (((w.alloc (.cells #[.int .i64 D, .int .i64 M, .slice A m.length c] 54)).alloc (.cells #[.int .i64 D', .int .i64 M', .slice A' m'.length c'] 54)).heap[w.heap.size]? = some (.cells #[.int .i64 D, .int .i64 M, .slice A m.length c] 54)) := Lib.hid (blk_alloc (blk_new w _) _)
    have Y0 : Hid (((w.alloc (.cells #[.int .i64 D, .int .i64 M, .slice A m.length c] 54)).alloc (.cells #[.int .i64 D', .int .i64 M', .slice A' m'.length c'] 54)).heap[w.heap.size + 1]? = some (.cells #[.int .i64 D', .int .i64 M', .slice A' m'.length c'] 54)) := Lib.hid (blk_at _ (by simp))
    have N0 : Hid (Below w.heap.size w ((w.alloc (.cells #[.int .i64 D, .int .i64 M, .slice A m.length c] 54)).alloc (.cells #[.int .i64 D', .int .i64 M', .slice A' m'.length c'] 54))) := Lib.hid (Bal (Bal (Below.refl _ _) _) _)
    go_loopw [5] (fun i wr => ∃ k : Nat, k ≤ m.length ∧ i = .int .i64 k ∧ Hid (Below w.heap.size w wr) ∧ Hid (wr.heap[w.heap.size]? = some (.cells #[.int .i64 D, .int .i64 M, .slice A m.length c] 54)) ∧ Hid (wr.heap[w.heap.size + 1]? = some (.cells #[.int .i64 D', .int .i64 M', .slice A' m'.length c'] 54)) ∧ Hid (∀ (j : Nat) (l l' : List Nat), j < k → m[j]? = some l → m'[j]? = some l' → l = l')) (fun i _ => m.length - (intOf i).toNat)
    case atStart => exact ⟨0, by omega, rfl, N0, X0, Y0, Lib.hid (fun j l l' h => by omega)⟩
    case round =>
     clear X0 Y0 N0
     obtain ⟨k, hk, rfl, N, X, Y, HN⟩ := hrel
     have x2 : wr.cell? ⟨w.heap.size, 2, none⟩ = some (.slice A m.length c) := blk_cell X.out 2 _ rfl
     have y2 : wr.cell? ⟨w.heap.size + 1, 2, none⟩ = some (.slice A' m'.length c') := blk_cell Y.out 2 _ rfl
     have hz : w.heap.size + 1 < wr.heap.size := blk_lt Y.out
     by_cases hlt : k < m.length
     ·obtain ⟨l, hl⟩ := get_some hlt
      obtain ⟨l', hl'⟩ := get_some (show k < m'.length by rw [← C3.out]; exact hlt)
      obtain ⟨b, off, Ai, ci, rfl, hb, h1, h2, h3, h4⟩ := (HS.out.next N.out).at_ hl
      obtain ⟨b', off', Ai', ci', rfl, hb', h1', h2', h3', h4'⟩ := (HS'.out.next N.out).at_ hl'
      have cv1 : ∀ nq, (convert 26 9 (.slice Ai l.length ci)).run Try.prog (wr.drewN nq) = .ok (.string (bstr l)) (wr.drewN nq) := fun nq => conv_rba ci (h4.drewN nq)
      have cv2 : ∀ nq, (convert 26 9 (.slice Ai' l'.length ci')).run Try.prog (wr.drewN nq) = .ok (.string (bstr l')) (wr.drewN nq) := fun nq => conv_rba ci' (h4'.drewN nq)
      have k1 : (0 : Int) ≤ (k : Int) := by omega
      have k2 : (k : Int) < (m.length : Int) := by omega
      have k3 : (k : Int) < (m'.length : Int) := by rw [← C3.out]; exact k2
      have q := bstr_eq h4.1 h4'.1
      have HL := Lib.hid hl
      have HL' := Lib.hid hl'
      clear hl hl' h4 h4'
      by_cases e : l = l'
      ·have q' : ((bstr l).toList == (bstr l').toList) = true := by rw [q]; simp [e]
       have E := Lib.hid e
       clear e q
       generalize bstr l = sl at *
       generalize bstr l' = sl' at *
       go_wp2_with fail
       go_quiet (fail)
       go_wp2_with fail
       refine ⟨⟨k + 1, by omega, by go_num, Lib.hid (below_drewN N.out _), Lib.hid (blk_drewN X.out _), Lib.hid (blk_drewN Y.out _), Lib.hid ?_⟩, by simp [intOf]; omega⟩
       intro j x x' hj hx hx'
       by_cases ej : j = k
       ·subst ej; rw [HL.out] at hx; rw [HL'.out] at hx'; cases hx; cases hx'; exact E.out
       ·exact HN.out j x x' (by omega) hx hx'
      ·have q' : ((bstr l).toList == (bstr l').toList) = false := by rw [q]; simp [e]
       have E := Lib.hid e
       clear e q
       generalize bstr l = sl at *
       generalize bstr l' = sl' at *
       go_wp2_with fail
       go_quiet (fail)
       go_wp2_with fail
       go_ret
       refine ⟨ret_bool ?_, below_drewN N.out _⟩
       refine (NO.out (.inr (.inr fun em => E.out ?_))).symm
       have := HL.out
       rw [em, HL'.out] at this
       cases this; rfl
     ·obtain rfl : k = m.length := by omega
      go_wp2_with fail
      go_ret
      refine ⟨ret_bool ?_, N.out⟩
      rw [← HV.out]
      symm
      rw [decide_eq_true_eq, C1.out, C2.out, ext_take C3.out (fun j l l' h h' => HN.out j l l' (get_lt h) h h')]
   ·have F := Lib.hid (NO.out (.inr (.inr (fun e => c3 (by rw [e])))))
    have q1 : (D != D') = false := by rw [c1]; simp
    have q2 : (M != M') = false := by rw [c2]; simp
    have q3 : ((m.length : Int) != (m'.length : Int)) = true := by rw [bne_iff_ne]; omega
    clear c1 c2 c3
    go_enter Try.func87, Try.ntmps87
    go_wp2_with fail
    go_ret
    exact ⟨ret_bool F.out.symm, Bal (Bal (Below.refl _ _) _) _⟩
  ·have F := Lib.hid (NO.out (.inr (.inl c2)))
   have q1 : (D != D') = false := by rw [c1]; simp
   have q2 : (M != M') = true := by rw [bne_iff_ne]; exact c2
   clear c1 c2
   go_enter Try.func87, Try.ntmps87
   go_wp2_with fail
   go_ret
   exact ⟨ret_bool F.out.symm, Bal (Bal (Below.refl _ _) _) _⟩
 ·have F := Lib.hid (NO.out (.inl c1))
  have q1 : (D != D') = true := by rw [bne_iff_ne]; exact c1
  clear c1
  go_enter Try.func87, Try.ntmps87
  go_wp2_with fail
  go_ret
  exact ⟨ret_bool F.out.symm, Bal (Bal (Below.refl _ _) _) _⟩
def greatL (l : List Nat) : Bool := (decide (16 < l.length) && decide (l.length ≤ 64)) || decide (70 < l.length)
def greatB (m : List (List Nat)) : Bool := m.any greatL || decide (20 < m.length)
end Go.Proofs.Ytapehckcmmompaa
