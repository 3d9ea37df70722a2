/- Contracts of layer 45: the sound stripe of some blocks. -/
import Derived.Test.YtmpmeeacdllomaaPaq
namespace Go.Proofs.Ytmpmeeacdllomaa
open Go.ChangeShapes Go.WideShapes Go.ChangeAt Go.RowKit Gf
set_option linter.unusedVariables false
attribute [local go_sem ↓] Go.wp_at_zero Go.wp_at_succ

/- the parity j of the blocks d, after i of them -/
def parTo (d : List (List Nat)) (j : Nat) : Nat → List Nat
  | 0 => List.replicate (d.getD 0 []).length 0
  | i + 1 => addR (parTo d j i) (d.getD i []) (fac d.length j i)
def par (d : List (List Nat)) (j : Nat) : List Nat := parTo d j d.length
def enc (d : List (List Nat)) (M : Nat) : List (List Nat) := d ++ (List.range M).map (par d)
theorem parTo_len (d : List (List Nat)) (j i : Nat) : (parTo d j i).length = (d.getD 0 []).length := by
  induction i with
  | zero => simp [parTo]
  | succ i ih => rw [parTo, addR_len, ih]
theorem parTo_byt {d : List (List Nat)} {j : Nat} (hD : d.length ≤ 8) (hj : j < 4) : ∀ i, i ≤ d.length → Byt (parTo d j i)
  | 0, _ => rep_byt _
  | i + 1, hi => addR_byt (parTo_byt hD hj i (by omega)) (fac_lt (by omega) (by omega))
theorem par_byt {d : List (List Nat)} {j : Nat} (hD : d.length ≤ 8) (hj : j < 4) : Byt (par d j) := parTo_byt hD hj _ (Nat.le_refl _)
theorem getD_of {m : List (List Nat)} {i : Nat} {l : List Nat} (h : m[i]? = some l) : m.getD i [] = l := by rw [List.getD_eq_getElem?_getD, h]; rfl

def EncPost (w : World) (d : List (List Nat)) (M : Nat) (e : Ending) (w' : World) : Prop := ∃ v, e = .returned (Sv d.length M v) ∧ OM w.heap.size w' v (enc d M) ∧ Below w.heap.size w w'
set_option maxHeartbeats 2000000 in
theorem encoded_calls (A : Option Addr) (c B : Nat) (d : List (List Nat)) (M n : Nat) (w : World) (hn : d.length ≤ c) (hc : c ≤ 9223372036854775807) (hs : RMA B w A d) (hd0 : 0 < d.length) (hd8 : d.length ≤ 8) (hM : M ≤ 4) (hn64 : n ≤ 64) (hlen : ∀ l ∈ d, l.length = n) :
    Calls Try.prog 48 #[.slice A d.length c, .int .i64 M] w (EncPost w d M) := by
  obtain ⟨s0, hs0⟩ := get_some hd0
  have hl0 : s0.length = n := hlen s0 (List.mem_of_getElem? hs0)
  obtain ⟨i0, hi0, hz0, hz1, hz2⟩ := info_parts sl_info
  have HI := Lib.hid (And.intro hi0 (And.intro hz0 (And.intro hz1 hz2)))
  clear hi0 hz0 hz1 hz2
  have HS := Lib.hid hs
  have HLEN := Lib.hid hlen
  clear hs hlen
  go_enter Try.func48, Try.ntmps48
  go_wp2_with fail
  have X0 : Hid (((w.alloc (.cells #[.int .i64 0, .int .i64 0, .slice none 0 0] 31)).alloc (.cells #[.int .i64 d.length, .int .i64 M, .slice none 0 0] 31)).heap[w.heap.size]? = some (.cells #[.int .i64 0, .int .i64 0, .slice none 0 0] 31)) := Lib.hid (blk_alloc (blk_new w _) _)
  have Y0 : Hid (((w.alloc (.cells #[.int .i64 0, .int .i64 0, .slice none 0 0] 31)).alloc (.cells #[.int .i64 d.length, .int .i64 M, .slice none 0 0] 31)).heap[w.heap.size + 1]? = some (.cells #[.int .i64 d.length, .int .i64 M, .slice none 0 0] 31)) := Lib.hid (blk_at _ (by simp))
  have N0 : Hid (Below w.heap.size w ((w.alloc (.cells #[.int .i64 0, .int .i64 0, .slice none 0 0] 31)).alloc (.cells #[.int .i64 d.length, .int .i64 M, .slice none 0 0] 31))) := Lib.hid (Bal (Bal (Below.refl _ _) _) _)
  go_loopw [18] (fun i wr => ∃ (k : Nat) (v : Value) (us : List Value), k ≤ d.length ∧ i = .int .i64 k ∧ Hid (Below w.heap.size w wr) ∧ Hid (wr.heap[w.heap.size]? = some (.cells #[.int .i64 0, .int .i64 0, .slice none 0 0] 31)) ∧ Hid (wr.heap[w.heap.size + 1]? = some (.cells #[.int .i64 d.length, .int .i64 M, v] 31)) ∧ Hid (OMx w.heap.size wr v us (d.take k))) (fun i _ => d.length - (intOf i).toNat)
  case atStart => exact ⟨0, _, [], by omega, rfl, N0, X0, Y0, Lib.hid (by rw [List.take_zero]; exact OMx.nil _ _)⟩
  case round =>
    clear X0 Y0 N0
    obtain ⟨k, v, us, hk, rfl, N, X, Y, O⟩ := hrel
    by_cases hlt : k < d.length
    · obtain ⟨l, hl⟩ := get_some hlt
      obtain ⟨b, off, Ai, ci, rfl, hb, h1, h2, h3, h4⟩ := (HS.out.next N.out).at_ hl
      have hln : l.length ≤ 64 := by rw [HLEN.out l (List.mem_of_getElem? hl)]; exact hn64
      have HB4 := Lib.hid h4
      have HL := Lib.hid hl
      have TL : Hid ((d.take k).length = k) := Lib.hid (by rw [List.length_take]; omega)
      obtain ⟨Av, cv, hv, hv1, hv2, _⟩ := own_form O.out.top
      rw [TL.out] at hv hv1
      subst hv
      clear hl h4
      have y2 : wr.cell? ⟨w.heap.size + 1, 2, none⟩ = some (.slice Av k cv) := blk_cell Y.out 2 _ rfl
      have hz : w.heap.size + 1 < wr.heap.size := blk_lt Y.out
      go_wp2_with fail
      have TOP : Hid (wr.ownsRow w.heap.size 57 1 (.slice Av k cv) k us) := Lib.hid (by have := O.out.top; rw [TL.out] at this; exact this)
      go_region_law (first
          | (refine step_append_rd _ (by rfl) _ _ 29 (by rfl) w.heap.size 57 i0 (.slice none 0 0) 1 24 Try.underlying29 HI.out.1 HI.out.2.1 HI.out.2.2.1 HI.out.2.2.2 rfl (by decide) _ k us (by rfl) ?_ (some ⟨w1.heap.size, 0, none⟩) 1 1 [.slice Au l.length cu] (by rfl) ?_ (slice_one _ _ _) ?_ ?_ ?_ ?_; (first | exact (own_next N1.out TOP.out).alloc _ | exact ((own_next N1.out TOP.out).alloc _).drew); (exact rd_one (t := 57) (blk_new _ _)); (simp only [maxLen]; omega); omega; (first | exact N.out.size | (have q1 := N.out.size; have q2 := N1.out.size; simp; omega)); intro v2 w2 hown2 hg2 hat2; obtain ⟨A2, c2, rfl, g1, g2, _⟩ := own_form hown2; have G2 : Hid ((w1.alloc (.cells #[.slice Au l.length cu] 57)).grownBy w2 (Value.slice Av k cv).ownBlock) := Lib.hid (by first | exact hg2 | exact gundrew hg2); have Y2 : Hid (w2.heap[w.heap.size + 1]? = some (.cells #[.int .i64 d.length, .int .i64 M, .slice Av k cv] 31)) := Lib.hid (gblk_ty G2.out ((own_next N1.out TOP.out).alloc _) (blk_alloc Y1.out _) ne_sl_st); have O2 : Hid (w2.ownsRow w.heap.size 57 1 (.slice A2 (k + 1) c2) (k + 1) (us ++ [.slice Au l.length cu])) := Lib.hid hown2; have f2 : w2.frozen? ⟨w.heap.size + 1, 2, none⟩ = false := blk_frozen Y2.out 2; have y3 : w2.cell? ⟨w.heap.size + 1, 2, none⟩ = some (.slice Av k cv) := blk_cell Y2.out 2 _ rfl; have X2 : Hid (w2.heap[w.heap.size]? = some (.cells #[.int .i64 0, .int .i64 0, .slice none 0 0] 31)) := Lib.hid (gblk_ty G2.out ((own_next N1.out TOP.out).alloc _) (blk_alloc (blk_next N1.out X.out) _) ne_sl_st); have N2 : Hid (Below w.heap.size w w2) := Lib.hid (gbel G2.out (Bal (Bgo N.out N1.out) _) (fun g hg => (TOP.out.lt g hg).1)); clear hown2 hg2 hat2)
          | (go_simp; go_at_call 54; refine (clone_calls Ai ci B l _ (by omega) ?_).mono ?_; (first | exact HB4.out | exact HB4.out.next (Below.refl _ _).drew); rintro e w1 ⟨u, rfl, hu, hb1⟩; obtain ⟨Au, cu, rfl, hu1, hu2, _⟩ := own_form hu; have U1 : Hid (OB wr.heap.size w1 (.slice Au l.length cu) l) := Lib.hid hu; have N1 : Hid (Below wr.heap.size wr w1) := Lib.hid (by first | exact hb1 | exact (Below.refl _ _).drew.trans hb1); have Y1 := Lib.hid (blk_next N1.out Y.out); have y4 : w1.cell? ⟨w.heap.size + 1, 2, none⟩ = some (.slice Av k cv) := blk_cell Y1.out 2 _ rfl; have hz1 : w.heap.size + 1 < w1.heap.size := blk_lt Y1.out; clear hu hb1))
      all_goals
        go_wp2_with fail
        have P2 : OMx w.heap.size w2 (.slice A2 (k + 1) c2) (us ++ [.slice Au l.length cu]) (d.take (k + 1)) := by
          rw [take_snoc' HL.out]
          exact OMx.push O.out (Bal N1.out _) (U1.out.alloc _) HB4.out.1 N.out.size (by rw [TL.out]; exact O2.out) G2.out
        have Y3 := blk_set Y2.out 2 (.slice A2 (k + 1) c2)
        refine ⟨⟨k + 1, .slice A2 (k + 1) c2, us ++ [.slice Au l.length cu], by omega, by go_num, Lib.hid ?_, Lib.hid ?_, Lib.hid ?_, Lib.hid ?_⟩, by simp [intOf]; omega⟩
        · first | exact Bset1 N2.out (by omega) 2 _ | exact (Bset1 N2.out (by omega) 2 _).drew
        · exact blk_set_other X2.out (by omega) 2 _
        · exact Y3
        · exact P2.set_ Y2.out ne_st_u8 ne_st_sl _
    · obtain rfl : k = d.length := by omega
      have O1 : Hid (OMx w.heap.size wr v us (d ++ (List.range 0).map (par d))) := Lib.hid (by have := O.out; rw [List.take_of_length_le (Nat.le_refl _)] at this; simpa using this)
      obtain ⟨w0, rfl⟩ : ∃ w0 : World, w0 = wr := ⟨_, rfl⟩
      clear O hlt hk
      go_wp2_with fail
      go_loopw [8] (fun i wr => ∃ (k : Nat) (v : Value) (us : List Value), k ≤ M ∧ i = .int .i64 k ∧ Hid (Below w.heap.size w wr) ∧ Hid (wr.heap[w.heap.size]? = some (.cells #[.int .i64 0, .int .i64 0, .slice none 0 0] 31)) ∧ Hid (wr.heap[w.heap.size + 1]? = some (.cells #[.int .i64 d.length, .int .i64 M, v] 31)) ∧ Hid (OMx w.heap.size wr v us (d ++ (List.range k).map (par d)))) (fun i _ => M - (intOf i).toNat)
      case atStart => exact ⟨0, v, us, by omega, rfl, N, X, Y, O1⟩
      case round =>
        clear N X Y O1 v us
        obtain ⟨j, v, us, hj, rfl, N, X, Y, O⟩ := hrel
        by_cases hlt : j < M
        · obtain ⟨b, off, Ai, ci, rfl, hb, h1, h2, h3, h4⟩ := (HS.out.next N.out).at_ hs0
          rw [hl0] at h1 h2
          have c0 : wr.cell? ⟨b, off, none⟩ = some (.slice Ai n ci) := by simpa using h1
          have mk := fun W => make_row W n (by omega)
          clear h4 h1
          have hz : w.heap.size + 1 < wr.heap.size := blk_lt Y.out
          obtain ⟨W1, rfl⟩ : ∃ W1 : World, W1 = wr := ⟨_, rfl⟩
          go_wp2_with fail
          have S0 : Hid ((W1.alloc (.cells (madeCells #[.int .u8 0] n) 5)).ownsRow W1.heap.size 5 1 (.slice (some ⟨W1.heap.size, 0, none⟩) n n) n (bv (parTo d j 0))) := Lib.hid (by
            have := made_own W1 n (by omega)
            rw [show parTo d j 0 = List.replicate n 0 by rw [parTo, getD_of hs0, hl0]]
            exact this)
          go_loopw [42] (fun i wr => ∃ (k : Nat), k ≤ d.length ∧ i = .int .i64 k ∧ Hid (Below W1.heap.size W1 wr) ∧ Hid (wr.ownsRow W1.heap.size 5 1 (.slice (some ⟨W1.heap.size, 0, none⟩) n n) n (bv (parTo d j k)))) (fun i _ => d.length - (intOf i).toNat)
          case atStart => exact ⟨0, by omega, rfl, Lib.hid (Bal (Below.refl _ _) _), S0⟩
          case round =>
            clear S0
            obtain ⟨k, hk, rfl, N1, S1⟩ := hrel
            have PL : Hid ((parTo d j k).length = n) := Lib.hid (by rw [parTo_len, getD_of hs0, hl0])
            by_cases hlt2 : k < d.length
            · obtain ⟨l, hl⟩ := get_some hlt2
              have NN := Bgo N.out N1.out
              obtain ⟨b', off', Ai, ci, e', hb, h1, h2, h3, h4⟩ := HS.out.at_ hl
              injection e' with e'
              injection e' with e1 e2
              subst e1 e2
              have hln : l.length = n := HLEN.out l (List.mem_of_getElem? hl)
              rw [hln] at h1 h2
              have cl : wr.cell? ⟨b, off + k, none⟩ = some (.slice Ai n ci) := (NN.cell hb).trans h1
              have AC : Hid (Calls Try.prog 55 #[.slice (some ⟨W1.heap.size, 0, none⟩) n n, .slice Ai n ci, .int .u8 (fac d.length j k : Nat)] wr fun e w' => e = .returned (.tuple #[]) ∧ w'.ownsRow W1.heap.size 5 1 (.slice (some ⟨W1.heap.size, 0, none⟩) n n) n (bv (parTo d j (k + 1))) ∧ wr.grownBy w' (some W1.heap.size)) := Lib.hid (by
                have := add_calls W1.heap.size n W1.heap.size (parTo d j k) Ai ci B l (fac d.length j k) wr (fac_lt (by omega) (by omega)) (parTo_byt hd8 (by omega) k (by omega)) (by rw [PL.out, hln]; exact Nat.le_refl _) (by rw [PL.out]; exact S1.out) (by rw [hln]; exact h2) h3 (h4.next NN) (h4.ne_ N.out.size)
                rw [PL.out, hln] at this
                rw [parTo, getD_of hl]
                exact this)
              have hbr : b < wr.heap.size := Nat.lt_of_lt_of_le hb NN.size
              clear h1 h4 hl NN
              go_wp2_with fail
              refine (factor_calls d.length j k _ (by omega) (by omega)).mono ?_
              rintro e w' ⟨rfl, rfl⟩
              go_wp2_with fail
              refine AC.out.mono ?_
              rintro e w2 ⟨rfl, ho2, hg2⟩
              have S2 := Lib.hid ho2
              have N2 : Hid (Below W1.heap.size W1 w2) := Lib.hid (gbel hg2 N1.out (fun k hk => by cases hk; exact Nat.le_refl _))
              clear ho2 hg2
              go_wp2_with fail
              exact ⟨⟨k + 1, by omega, by go_num, N2, S2⟩, by simp [intOf]; omega⟩
            · obtain rfl : k = d.length := by omega
              have y2 : wr.cell? ⟨w.heap.size + 1, 2, none⟩ = some v := blk_cell (blk_next N1.out Y.out) 2 _ rfl
              obtain ⟨Av, cv, rfl, hv1, hv2, _⟩ := own_form O.out.top
              have VL : Hid ((d ++ (List.range j).map (par d)).length = d.length + j) := Lib.hid (by simp)
              rw [VL.out] at y2 hv1
              have TOP : Hid (wr.ownsRow w.heap.size 57 1 (.slice Av (d.length + j) cv) (d.length + j) us) := Lib.hid (by have := own_next N1.out O.out.top; rw [VL.out] at this; exact this)
              have Y1 : Hid (wr.heap[w.heap.size + 1]? = some (.cells #[.int .i64 d.length, .int .i64 M, .slice Av (d.length + j) cv] 31)) := Lib.hid (by have := blk_next N1.out Y.out; rw [VL.out] at this; exact this)
              have hz1 : w.heap.size + 1 < wr.heap.size := blk_lt Y1.out
              go_wp2_with (at_builtin; refine wpList_append_rd _ rfl (.tmp 57) (.tmp 59) _ rfl w.heap.size 57 i0 (.slice none 0 0) 1 24 Try.underlying29 HI.out.1 HI.out.2.1 HI.out.2.2.1 HI.out.2.2.2 rfl (by decide) _ (d.length + j) us rfl (TOP.out.alloc _) (some ⟨wr.heap.size, 0, none⟩) 1 1 [.slice (some ⟨W1.heap.size, 0, none⟩) n n] rfl (rd_one (t := 57) (blk_new _ _)) (slice_one _ _ _) (by simp only [maxLen]; omega) (by omega) (by simp; omega) ?_; intro v2 w2 hown2 hg2 hat2; obtain ⟨A2, c2, rfl, g1, g2, _⟩ := own_form hown2; have G2 := Lib.hid hg2; have O2 := Lib.hid hown2; have Y2 : Hid (w2.heap[w.heap.size + 1]? = some (.cells #[.int .i64 d.length, .int .i64 M, .slice Av (d.length + j) cv] 31)) := Lib.hid (gblk_ty hg2 (TOP.out.alloc _) (blk_alloc Y1.out _) ne_sl_st); have X2 : Hid (w2.heap[w.heap.size]? = some (.cells #[.int .i64 0, .int .i64 0, .slice none 0 0] 31)) := Lib.hid (gblk_ty hg2 (TOP.out.alloc _) (blk_alloc (blk_next N1.out X.out) _) ne_sl_st); have N2 : Hid (Below w.heap.size w w2) := Lib.hid (gbel hg2 (Bal (Bgo N.out N1.out) _) (fun g hg => (TOP.out.lt g hg).1)); have f2 : w2.frozen? ⟨w.heap.size + 1, 2, none⟩ = false := blk_frozen Y2.out 2; have y3 : w2.cell? ⟨w.heap.size + 1, 2, none⟩ = some (.slice Av (d.length + j) cv) := blk_cell Y2.out 2 _ rfl; have hz2 : w.heap.size + 1 < w2.heap.size := blk_lt Y2.out; clear hown2 hg2 hat2)
              have P2 : OMx w.heap.size w2 (.slice A2 (d.length + j + 1) c2) (us ++ [.slice (some ⟨W1.heap.size, 0, none⟩) n n]) (d ++ (List.range (j + 1)).map (par d)) := by
                rw [List.range_succ, List.map_append, ← List.append_assoc]
                refine OMx.push O.out (Bal N1.out _) (l := par d j) ?_ (par_byt hd8 (by omega)) N.out.size (by rw [VL.out]; exact O2.out) (by rw [VL.out]; exact G2.out)
                have := S1.out.alloc (.cells #[.slice (some ⟨W1.heap.size, 0, none⟩) n n] 57)
                unfold OB
                rw [show (par d j).length = n from PL.out]
                exact this
              have Y3 := blk_set Y2.out 2 (.slice A2 (d.length + j + 1) c2)
              refine ⟨⟨j + 1, .slice A2 (d.length + j + 1) c2, us ++ [.slice (some ⟨W1.heap.size, 0, none⟩) n n], by omega, by go_num, Lib.hid ?_, Lib.hid ?_, Lib.hid ?_, Lib.hid ?_⟩, by simp [intOf]; omega⟩
              · first | exact Bset1 N2.out (by omega) 2 _ | exact (Bset1 N2.out (by omega) 2 _).drew
              · exact blk_set_other X2.out (by omega) 2 _
              · exact Y3
              · exact P2.set_ Y2.out ne_st_u8 ne_st_sl _
        · obtain rfl : j = M := by omega
          obtain ⟨Av, cv, rfl, hv1, hv2, _⟩ := own_form O.out.top
          have y0 : wr.cell? ⟨w.heap.size + 1, 0, none⟩ = some (.int .i64 d.length) := blk_cell Y.out 0 _ rfl
          have y1 : wr.cell? ⟨w.heap.size + 1, 1, none⟩ = some (.int .i64 j) := blk_cell Y.out 1 _ rfl
          have y2 := blk_cell Y.out 2 _ rfl
          have x0 : wr.cell? ⟨w.heap.size, 0, none⟩ = some (.int .i64 0) := blk_cell X.out 0 _ rfl
          have x1 : wr.cell? ⟨w.heap.size, 1, none⟩ = some (.int .i64 0) := blk_cell X.out 1 _ rfl
          have x2 : wr.cell? ⟨w.heap.size, 2, none⟩ = some (.slice none 0 0) := blk_cell X.out 2 _ rfl
          have f0 : wr.frozen? ⟨w.heap.size, 0, none⟩ = false := blk_frozen X.out 0
          have f1 : wr.frozen? ⟨w.heap.size, 1, none⟩ = false := blk_frozen X.out 1
          have f2 : wr.frozen? ⟨w.heap.size, 2, none⟩ = false := blk_frozen X.out 2
          go_wp2_with fail
          have VL : (d ++ (List.range j).map (par d)).length = d.length + j := by simp
          have OF := O.out
          rw [VL] at OF
          have Z := blk_set3 X.out (.int .i64 (d.length : Int)) (.int .i64 (j : Int)) (.slice Av (d.length + j) cv)
          have e0 := blk_cell Z 0 _ rfl
          have e1 := blk_cell Z 1 _ rfl
          have e2 := blk_cell Z 2 _ rfl
          refine bodyPost_ret (v := Sv (d.length : Int) (j : Int) (.slice Av (d.length + j) cv)) (by simp [results, Try.results48, go_sem, e0, e1, e2]) rfl ⟨_, rfl, ⟨us, ?_⟩, ?_⟩
          · exact OF.set3_ X.out _ _ _
          · exact Bset3 N.out (Nat.le_refl _) _ _ _
end Go.Proofs.Ytmpmeeacdllomaa
