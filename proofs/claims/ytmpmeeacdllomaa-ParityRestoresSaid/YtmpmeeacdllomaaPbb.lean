/- Contracts of layer 45: the sound stripe that a stripe fits. -/
import Derived.Test.YtmpmeeacdllomaaPba
namespace Go.Proofs.Ytmpmeeacdllomaa
open Go.ChangeShapes Go.WideShapes Go.ChangeAt Go.RowKit Gf
set_option linter.unusedVariables false
attribute [local go_sem ↓] Go.wp_at_zero Go.wp_at_succ

/- a stripe whose blocks are lost or of the length q -/
structure Okq (D M q : Nat) (m : List (List Nat)) : Prop where
  d1 : 1 ≤ D
  d8 : D ≤ 8
  m4 : M ≤ 4
  len : m.length = D + M
  q1 : 1 ≤ q
  q64 : q ≤ 64
  each : ∀ l ∈ m, l.length = 0 ∨ l.length = q
theorem Ok.q {D M : Nat} {m : List (List Nat)} (h : Ok D M m) : Okq D M (szL m) m := ⟨h.d1, h.d8, h.m4, h.len, h.s1, h.s64, h.each⟩
theorem Okq.size {D M q : Nat} {m : List (List Nat)} (h : Okq D M q m) (hl : lostN m ≤ M) : szL m = q := by
  have h0 : szL m ≠ 0 := fun e => by
    have := lost_all.2 e
    have := h.len
    have := h.d1
    omega
  obtain ⟨l, hl, e⟩ := szL_mem h0
  rcases h.each l hl with h1 | h1
  · omega
  · omega
theorem Okq.ok {D M q : Nat} {m : List (List Nat)} (h : Okq D M q m) (hl : lostN m ≤ M) : Ok D M m := by
  have e := h.size hl
  exact ⟨h.d1, h.d8, h.m4, h.len, by rw [e]; exact h.q1, by rw [e]; exact h.q64, fun l hl => by rw [e]; exact h.each l hl⟩
theorem solR_rows {D M : Nat} {m : List (List Nat)} (h : Ok D M m) (hl : lostN m ≤ M) : (solR D M m).length = (goneL D m).length ∧ ∀ l ∈ solR D M m, l.length = szL m := by
  have ce := cho_enough h.len hl
  have ML : (matM D m (choTo D m (goneL D m).length M)).length = (goneL D m).length := by rw [matM_len, ce]
  have RL : (matR D m (choTo D m (goneL D m).length M)).length = (goneL D m).length := by rw [matR_len, ce]
  have RR : ∀ l ∈ matR D m (choTo D m (goneL D m).length M), l.length = szL m := fun l hl => by
    simp only [matR, List.mem_map] at hl
    obtain ⟨x, hx, rfl⟩ := hl
    obtain ⟨x1, x2⟩ := (choTo_le D m (goneL D m).length M).2.2 x hx
    unfold syn
    rw [synTo_len]
    obtain ⟨z, hz⟩ := get_some (show D + x < m.length by rw [h.len]; omega)
    rw [getD_of hz] at x2 ⊢
    rcases h.each z (List.mem_of_getElem? hz) with h | h
    · exact absurd h x2
    · exact h
  have gl := gjTo_len (matM D m (choTo D m (goneL D m).length M)) (matR D m (choTo D m (goneL D m).length M)) (goneL D m).length
  have gr := gjTo_rows (matM_rows D m (choTo D m (goneL D m).length M)) RR (by rw [ML, RL]) (goneL D m).length (by rw [ML]; exact Nat.le_refl _)
  exact ⟨by unfold solR; rw [gl.2, RL], gr.2⟩
theorem dataL_rows {D M : Nat} {m : List (List Nat)} (h : Ok D M m) (hl : lostN m ≤ M) : ∀ l ∈ dataL D M m, l.length = szL m := fun l hl' => by
  simp only [dataL, List.mem_map, List.mem_range] at hl'
  obtain ⟨i, hi, rfl⟩ := hl'
  have s := solR_rows h hl
  split
  · rename_i h0
    obtain ⟨y, hy⟩ := get_some (show (lostL m i).length < (solR D M m).length by rw [s.1]; exact lostL_lt hi h0)
    rw [getD_of hy]; exact s.2 y (List.mem_of_getElem? hy)
  · rename_i h0
    obtain ⟨z, hz⟩ := get_some (show i < m.length by rw [h.len]; omega)
    rw [getD_of hz] at h0 ⊢
    rcases h.each z (List.mem_of_getElem? hz) with h | h
    · exact absurd h h0
    · exact h
theorem enc_len (d : List (List Nat)) (M : Nat) : (enc d M).length = d.length + M := by simp [enc]
theorem box3 {w : World} {b : Nat} {x y z : Value} {t : TypeId} (h : w.heap[b]? = some (.cells #[x, y, z] t)) : w.cell? ⟨b, 0, none⟩ = some x ∧ w.cell? ⟨b, 1, none⟩ = some y ∧ w.cell? ⟨b, 2, none⟩ = some z := ⟨blk_cell h 0 _ rfl, blk_cell h 1 _ rfl, blk_cell h 2 _ rfl⟩
theorem blk_drew {w : World} {b : Nat} {o : Obj} (h : w.heap[b]? = some o) : w.drew.heap[b]? = some o := h
theorem undrewB {a b : World} (h : Below a.drew.heap.size a.drew b) : Below a.heap.size a b := ⟨h.os, h.tape, h.output, h.size, h.block⟩
def rstE (D M : Nat) (m : List (List Nat)) : Int := if M < lostN m then 32 else if fitB m (enc (dataL D M m) M) then 0 else 30
def rstS (D M : Nat) (m : List (List Nat)) : St := if rstE D M m = 0 then ((D : Int), (M : Int), enc (dataL D M m) M) else (0, 0, [])
theorem rstS_err {D M : Nat} {m : List (List Nat)} {er : Int} (h : rstE D M m = er) (h0 : er ≠ 0) : rstS D M m = (0, 0, []) := by unfold rstS; rw [h, if_neg h0]
set_option maxRecDepth 100000 in
set_option maxHeartbeats 4000000 in
theorem restored_calls (A : Option Addr) (c B D M q : Nat) (m : List (List Nat)) (w : World) (hn : m.length ≤ c) (hc : c ≤ 9223372036854775807) (hs : RMA B w A m) (hok : Okq D M q m) :
    Calls Try.prog 36 #[Sv D M (.slice A m.length c)] w (SEPost w (rstS D M m) (rstE D M m)) := by
  have HS := Lib.hid hs
  have OKQ := Lib.hid hok
  clear hs hok
  go_enter Try.func36, Try.ntmps36
  go_upto_region 1 with fail
  have LC := Lib.hid (fun W (h : RMA B W A m) => lost_calls (D : Int) (M : Int) A c B m W hn hc h)
  have SB0 : Hid (((w.alloc (.cells #[.int .i64 D, .int .i64 M, .slice A m.length c] 31)).alloc (.cells #[.int .i64 0, .int .i64 0, .slice none 0 0] 31)).heap[w.heap.size]? = some (.cells #[.int .i64 D, .int .i64 M, .slice A m.length c] 31)) := Lib.hid (blk_alloc (blk_new w _) _)
  have X0 : Hid (((w.alloc (.cells #[.int .i64 D, .int .i64 M, .slice A m.length c] 31)).alloc (.cells #[.int .i64 0, .int .i64 0, .slice none 0 0] 31)).heap[w.heap.size + 1]? = some (.cells #[.int .i64 0, .int .i64 0, .slice none 0 0] 31)) := Lib.hid (blk_at _ (by simp))
  have N0 : Hid (Below w.heap.size w ((w.alloc (.cells #[.int .i64 D, .int .i64 M, .slice A m.length c] 31)).alloc (.cells #[.int .i64 0, .int .i64 0, .slice none 0 0] 31))) := Lib.hid (Bal (Bal (Below.refl _ _) _) _)
  generalize (w.alloc (.cells #[.int .i64 D, .int .i64 M, .slice A m.length c] 31)).alloc (.cells #[.int .i64 0, .int .i64 0, .slice none 0 0] 31) = W0 at *
  obtain ⟨z, hz⟩ : ∃ z, lostN m = z := ⟨_, rfl⟩
  rw [hz] at LC
  have HZ := Lib.hid hz
  clear hz
  have b0 : W0.cell? ⟨w.heap.size, 0, none⟩ = some (.int .i64 D) := blk_cell SB0.out 0 _ rfl
  have b1 : W0.cell? ⟨w.heap.size, 1, none⟩ = some (.int .i64 M) := blk_cell SB0.out 1 _ rfl
  have b2 : W0.cell? ⟨w.heap.size, 2, none⟩ = some (.slice A m.length c) := blk_cell SB0.out 2 _ rfl
  go_region_held3 (fun W => W.cell? ⟨w.heap.size, 0, none⟩ = some (.int .i64 D) ∧ W.cell? ⟨w.heap.size, 1, none⟩ = some (.int .i64 M) ∧ W.cell? ⟨w.heap.size, 2, none⟩ = some (.slice A m.length c)) (first | (exact ⟨blk_cell SB1.out 0 _ rfl, blk_cell SB1.out 1 _ rfl, blk_cell SB1.out 2 _ rfl⟩) | (exact ⟨blk_cell SB0.out 0 _ rfl, blk_cell SB0.out 1 _ rfl, blk_cell SB0.out 2 _ rfl⟩))
    ((go_at_call 43; refine (LC.out _ ?_).mono ?_; (first | exact HS.out.next N0.out | exact HS.out.next N0.out.drew); rintro e w1 ⟨rfl, hb1⟩; have N1 : Hid (Below w.heap.size w w1) := Lib.hid (by first | exact Bgo N0.out hb1 | exact Bgo N0.out.drew hb1); have SB1 : Hid (w1.heap[w.heap.size]? = some (.cells #[.int .i64 D, .int .i64 M, .slice A m.length c] 31)) := Lib.hid (by exact blk_next hb1 SB0.out); have X1 : Hid (w1.heap[w.heap.size + 1]? = some (.cells #[.int .i64 0, .int .i64 0, .slice none 0 0] 31)) := Lib.hid (by exact blk_next hb1 X0.out); clear hb1))
  clear b0 b1 b2 SB0 X0 N0
  have x0 : w1.cell? ⟨w.heap.size + 1, 0, none⟩ = some (.int .i64 0) := blk_cell X1.out 0 _ rfl
  have x1 : w1.cell? ⟨w.heap.size + 1, 1, none⟩ = some (.int .i64 0) := blk_cell X1.out 1 _ rfl
  have x2 : w1.cell? ⟨w.heap.size + 1, 2, none⟩ = some (.slice none 0 0) := blk_cell X1.out 2 _ rfl
  have f0 : w1.frozen? ⟨w.heap.size + 1, 0, none⟩ = false := blk_frozen X1.out 0
  have f1 : w1.frozen? ⟨w.heap.size + 1, 1, none⟩ = false := blk_frozen X1.out 1
  have f2 : w1.frozen? ⟨w.heap.size + 1, 2, none⟩ = false := blk_frozen X1.out 2
  by_cases hzM : M < z
  · have FE : Hid (rstE D M m = 32) := Lib.hid (by unfold rstE; rw [HZ.out, if_pos hzM])
    go_wp2_with fail
    have Z := blk_set3 X1.out (.int .i64 0) (.int .i64 0) (.slice none 0 0)
    have e0 := blk_cell Z 0 _ rfl
    have e1 := blk_cell Z 1 _ rfl
    have e2 := blk_cell Z 2 _ rfl
    rw [rstS_err FE.out (by decide), FE.out]
    refine bodyPost_ret (v := .tuple #[Sv 0 0 (.slice none 0 0), .int .i64 32]) (by simp [results, Try.results36, go_sem, e0, e1, e2]) rfl (SEPost.none_ ?_)
    exact Bset3 N1.out (by omega) _ _ _
  · have HL : Hid (lostN m ≤ M) := Lib.hid (by rw [HZ.out]; omega)
    have OK : Hid (Ok D M m) := Lib.hid (OKQ.out.ok HL.out)
    have FF : Hid (rstE D M m = if fitB m (enc (dataL D M m) M) then 0 else 30) := Lib.hid (by unfold rstE; rw [HZ.out, if_neg hzM])
    have DR := Lib.hid (dataL_rows OK.out HL.out)
    have DLN : Hid ((dataL D M m).length = D) := Lib.hid (dataL_len D M m)
    have DC := Lib.hid (fun W (h : RMA B W A m) => data_calls A c B D M m W hn hc h OK.out HL.out)
    have EC := Lib.hid (fun W A' c' (k1 : (dataL D M m).length ≤ c') (k2 : c' ≤ 9223372036854775807) (h : RMA 0 W A' (dataL D M m)) => encoded_calls A' c' 0 (dataL D M m) M (szL m) W k1 k2 h (by rw [DLN.out]; exact OK.out.d1) (by rw [DLN.out]; exact OK.out.d8) OK.out.m4 OK.out.s64 DR.out)
    unfold EncPost at EC
    simp only [DLN.out] at EC
    generalize hdl : dataL D M m = dl at *
    have HDL := Lib.hid hdl
    clear hdl
    clear x0 x1 x2 f0 f1 f2
    go_upto_region 3 with fail
    go_cut [4] (fun s4 wx => ∃ (rb : Nat) (v : Value), s4 = .pointer (some ⟨rb, 0, none⟩) ∧ w.heap.size + 1 < rb ∧ Hid (Below w.heap.size w wx) ∧ Hid (wx.heap[w.heap.size]? = some (.cells #[.int .i64 D, .int .i64 M, .slice A m.length c] 31)) ∧ Hid (wx.heap[w.heap.size + 1]? = some (.cells #[.int .i64 0, .int .i64 0, .slice none 0 0] 31)) ∧ Hid (wx.heap[rb]? = some (.cells #[.int .i64 D, .int .i64 M, v] 31)) ∧ Hid (OM w.heap.size wx v (enc dl M)))
    case first =>
      have b0 : w1.cell? ⟨w.heap.size, 0, none⟩ = some (.int .i64 D) := blk_cell SB1.out 0 _ rfl
      have b1 : w1.cell? ⟨w.heap.size, 1, none⟩ = some (.int .i64 M) := blk_cell SB1.out 1 _ rfl
      have b2 : w1.cell? ⟨w.heap.size, 2, none⟩ = some (.slice A m.length c) := blk_cell SB1.out 2 _ rfl
      have hz1 : w.heap.size + 1 < w1.heap.size := blk_lt X1.out
      have HZ1 := Lib.hid hz1
      go_region_held3 (fun W => W.cell? ⟨w.heap.size, 0, none⟩ = some (.int .i64 D) ∧ W.cell? ⟨w.heap.size, 1, none⟩ = some (.int .i64 M) ∧ W.cell? ⟨w.heap.size, 2, none⟩ = some (.slice A m.length c)) (first | (with_reducible exact box3 SB3.out) | (with_reducible exact box3 (blk_drew SB3.out)) | (with_reducible exact box3 (blk_alloc SB3.out _)) | (with_reducible exact box3 (blk_drew (blk_alloc SB3.out _))) | (with_reducible exact box3 SB2.out) | (with_reducible exact box3 (blk_drew SB2.out)) | (with_reducible exact box3 (blk_alloc SB2.out _)) | (with_reducible exact box3 (blk_drew (blk_alloc SB2.out _))) | (with_reducible exact box3 SB1.out) | (with_reducible exact box3 (blk_drew SB1.out)) | (with_reducible exact box3 (blk_alloc SB1.out _)) | (with_reducible exact box3 (blk_drew (blk_alloc SB1.out _))) | (with_reducible exact box3 (blk_set3_other SB3.out H31.out _ _ _)) | (with_reducible exact box3 (blk_set3_other SB3.out H32.out _ _ _)) | (with_reducible exact box3 (blk_drew (blk_set3_other SB3.out H31.out _ _ _))) | (with_reducible exact box3 (blk_drew (blk_set3_other SB3.out H32.out _ _ _))))
        (first
          | (go_at_call 51; refine (DC.out _ ?_).mono ?_; (refine HS.out.next ?_); (repeat (first | (with_reducible exact N1.out) | (with_reducible refine Below.drew ?_) | (with_reducible refine Bal ?_ _))); rintro e w2 ⟨v2, rfl, ⟨A2, c2, rfl, k1, k2, hr2⟩, hb2⟩; rw [DLN.out] at k1; rw [DLN.out]; have RD := Lib.hid hr2; have B2 : Hid (Below w1.heap.size w1 w2) := Lib.hid (by first | (with_reducible exact hb2) | (with_reducible exact undrewB hb2) | (with_reducible exact Bgo (Bal (Below.refl _ _) _) hb2) | (with_reducible exact Bgo (Bal (Below.refl _ _) _) (undrewB hb2))); have SB2 : Hid (w2.heap[w.heap.size]? = some (.cells #[.int .i64 D, .int .i64 M, .slice A m.length c] 31)) := Lib.hid (blk_next B2.out SB1.out); (first | (have R2 : Hid (w2.heap[w1.heap.size]? = some (.cells #[.int .i64 0, .int .i64 0, .slice none 0 0] 31)) := Lib.hid (by first | (with_reducible exact blk_next hb2 (blk_new w1 _)) | (with_reducible exact blk_next (undrewB hb2) (blk_new w1 _)))) | skip); clear hb2 hr2)
          | (go_at_call 48; refine (EC.out _ A2 c2 k1 k2 ?_).mono ?_; (refine RD.out.next ?_); (repeat (first | (with_reducible exact Below.refl _ _) | (with_reducible refine Below.drew ?_) | (with_reducible refine Bal ?_ _))); rintro e w3 ⟨v3, rfl, ⟨us3, ho3⟩, hb3⟩; obtain ⟨A3, c3, rfl, g31, g32, _⟩ := own_form ho3.top; have B3 : Hid (Below w2.heap.size w2 w3) := Lib.hid (by first | (with_reducible exact hb3) | (with_reducible exact undrewB hb3) | (with_reducible exact Bgo (Bal (Below.refl _ _) _) hb3) | (with_reducible exact Bgo (Bal (Below.refl _ _) _) (undrewB hb3))); have H31 : Hid (w1.heap.size ≠ w.heap.size) := Lib.hid (by have := HZ1.out; omega); have H32 : Hid (w2.heap.size ≠ w.heap.size) := Lib.hid (by have := HZ1.out; have := B2.out.size; omega); have SB3 : Hid (w3.heap[w.heap.size]? = some (.cells #[.int .i64 D, .int .i64 M, .slice A m.length c] 31)) := Lib.hid (blk_next B3.out SB2.out); have O3 : Hid (OMx w.heap.size w3 (.slice A3 (enc dl M).length c3) us3 (enc dl M)) := Lib.hid (ho3.mono (Nat.le_trans (Nat.le_trans N1.out.size B2.out.size) (by first | exact Nat.le_refl _ | exact (Bal (Below.refl _ _) _).size))); (first | (have R3 : Hid (w3.heap[w1.heap.size]? = some (.cells #[.int .i64 0, .int .i64 0, .slice none 0 0] 31)) := Lib.hid (by exact blk_next B3.out R2.out); have r0 := blk_cell R3.out 0 _ rfl; have r1 := blk_cell R3.out 1 _ rfl; have r2 := blk_cell R3.out 2 _ rfl; have q0 := blk_frozen R3.out 0; have q1 := blk_frozen R3.out 1; have q2 := blk_frozen R3.out 2) | (have R3 : Hid (w3.heap[w2.heap.size]? = some (.cells #[.int .i64 0, .int .i64 0, .slice none 0 0] 31)) := Lib.hid (by first | (with_reducible exact blk_next hb3 (blk_new w2 _)) | (with_reducible exact blk_next (undrewB hb3) (blk_new w2 _))); have r0 := blk_cell R3.out 0 _ rfl; have r1 := blk_cell R3.out 1 _ rfl; have r2 := blk_cell R3.out 2 _ rfl; have q0 := blk_frozen R3.out 0; have q1 := blk_frozen R3.out 1; have q2 := blk_frozen R3.out 2) | skip); clear hb3 ho3))
      · go_wp2_with fail
        go_meet
        have X3 := blk_next B3.out (blk_next B2.out X1.out)
        have N3 := Bgo (Bgo N1.out B2.out) B3.out
        refine ⟨w3.heap.size, .slice A3 (enc dl M).length c3, rfl, by have := HZ1.out; have := B2.out.size; have := B3.out.size; omega, Lib.hid (Bal N3 _), Lib.hid (blk_alloc SB3.out _), Lib.hid (blk_alloc X3 _), Lib.hid (blk_new w3 _), Lib.hid ⟨us3, O3.out.next (Bal (Below.refl _ _) _)⟩⟩
      · go_wp2_with fail
        go_meet
        have X3 := blk_next B3.out (blk_next B2.out X1.out)
        have N3 := Bgo (Bgo N1.out B2.out) B3.out
        have H33 : w2.heap.size ≠ w.heap.size + 1 := by have := HZ1.out; have := B2.out.size; omega
        have LW : w.heap.size ≤ w2.heap.size := by have := HZ1.out; have := B2.out.size; omega
        refine ⟨w2.heap.size, .slice A3 (enc dl M).length c3, rfl, by have := HZ1.out; have := B2.out.size; omega, Lib.hid (Bset3 N3 LW _ _ _), Lib.hid (blk_set3_other SB3.out H32.out _ _ _), Lib.hid (blk_set3_other X3 H33 _ _ _), Lib.hid (blk_set3 R3.out _ _ _), Lib.hid ⟨us3, O3.out.set3_ R3.out _ _ _⟩⟩
      · go_wp2_with fail
        go_meet
        have X3 := blk_next B3.out (blk_next B2.out X1.out)
        have N3 := Bgo (Bgo N1.out B2.out) B3.out
        have H33 : w1.heap.size ≠ w.heap.size + 1 := by have := HZ1.out; omega
        have LW : w.heap.size ≤ w1.heap.size := by have := HZ1.out; omega
        refine ⟨w1.heap.size, .slice A3 (enc dl M).length c3, rfl, by have := HZ1.out; omega, Lib.hid (Bset3 N3 LW _ _ _), Lib.hid (blk_set3_other SB3.out H31.out _ _ _), Lib.hid (blk_set3_other X3 H33 _ _ _), Lib.hid (blk_set3 R3.out _ _ _), Lib.hid ⟨us3, O3.out.set3_ R3.out _ _ _⟩⟩
    case rest =>
      obtain ⟨rb, v, rfl, hrb, N4, SB4, X4, Y4, O4⟩ := hcut
      obtain ⟨us, ho⟩ := O4.out
      obtain ⟨Av, cv, rfl, hv1, hv2, _⟩ := own_form ho.top
      have EL : Hid ((enc dl M).length = m.length) := Lib.hid (by rw [enc_len, DLN.out, OK.out.len])
      rw [EL.out] at hv1 Y4 ho
      have OF := Lib.hid ho
      have RV := Lib.hid ho.rma
      have s2 : wc.cell? ⟨w.heap.size, 2, none⟩ = some (.slice A m.length c) := blk_cell SB4.out 2 _ rfl
      have y0 : wc.cell? ⟨rb, 0, none⟩ = some (.int .i64 D) := blk_cell Y4.out 0 _ rfl
      have y1 : wc.cell? ⟨rb, 1, none⟩ = some (.int .i64 M) := blk_cell Y4.out 1 _ rfl
      have y2 : wc.cell? ⟨rb, 2, none⟩ = some (.slice Av m.length cv) := blk_cell Y4.out 2 _ rfl
      have x0 : wc.cell? ⟨w.heap.size + 1, 0, none⟩ = some (.int .i64 0) := blk_cell X4.out 0 _ rfl
      have x1 : wc.cell? ⟨w.heap.size + 1, 1, none⟩ = some (.int .i64 0) := blk_cell X4.out 1 _ rfl
      have x2 : wc.cell? ⟨w.heap.size + 1, 2, none⟩ = some (.slice none 0 0) := blk_cell X4.out 2 _ rfl
      have f0 : wc.frozen? ⟨w.heap.size + 1, 0, none⟩ = false := blk_frozen X4.out 0
      have f1 : wc.frozen? ⟨w.heap.size + 1, 1, none⟩ = false := blk_frozen X4.out 1
      have f2 : wc.frozen? ⟨w.heap.size + 1, 2, none⟩ = false := blk_frozen X4.out 2
      clear ho O4
      go_wp2_with fail
      go_loop [21] (fun i => ∃ k : Nat, k ≤ m.length ∧ i = .int .i64 k ∧ Hid (∀ (j : Nat) (l l' : List Nat), j < k → m[j]? = some l → (enc dl M)[j]? = some l' → l.length = 0 ∨ l = l')) (fun i => m.length - (intOf i).toNat)
      case atStart => exact ⟨0, by omega, rfl, Lib.hid (fun j l l' h => by omega)⟩
      case round =>
        obtain ⟨k, hk, rfl, HN⟩ := hrel
        by_cases hlt : k < m.length
        · obtain ⟨l, hl⟩ := get_some hlt
          obtain ⟨l', hl'⟩ := get_some (show k < (enc dl M).length by rw [EL.out]; exact hlt)
          obtain ⟨b, off, Ai, ci, rfl, hb, h1, h2, h3, h4⟩ := (HS.out.next N4.out).at_ hl
          obtain ⟨b', off', Ai', ci', rfl, hb', h1', h2', h3', h4'⟩ := RV.out.at_ hl'
          have EQ := Lib.hid (fun W (hW : Below wc.heap.size wc W) => equal_calls Ai Ai' ci ci' B w.heap.size l l' W h2 h3 (h4.next hW) h2' h3' (h4'.next hW))
          have HL := Lib.hid hl
          have HL' := Lib.hid hl'
          have k1 : (0 : Int) ≤ (k : Int) := by omega
          have k2 : (k : Int) < (m.length : Int) := by omega
          clear hl hl' h4 h4'
          have more : Hid ((l.length = 0 ∨ l = l') → ∀ (j : Nat) (x x' : List Nat), j < k + 1 → m[j]? = some x → (enc dl M)[j]? = some x' → x.length = 0 ∨ x = x') := Lib.hid (fun e j x x' hj hx hx' => by
            by_cases ej : j = k
            · subst ej; rw [HL.out] at hx; rw [HL'.out] at hx'; cases hx; cases hx'; exact e
            · exact HN.out j x x' (by omega) hx hx')
          by_cases h0 : l.length = 0
          · have q1 : ((l.length : Int) != 0) = false := by rw [h0]; rfl
            have H0 := Lib.hid h0
            clear h0
            go_wp2_with fail
            exact ⟨⟨k + 1, by omega, by go_num, Lib.hid (more.out (.inl H0.out))⟩, by simp [intOf]; omega⟩
          · have q1 : ((l.length : Int) != 0) = true := by rw [bne_iff_ne]; omega
            have H0 := Lib.hid h0
            clear h0
            by_cases e : l = l'
            · have E := Lib.hid e
              rw [show decide (l = l') = true by simp [e]] at EQ
              clear e
              go_wp2_with fail
              refine (EQ.out _ (Below.refl _ _)).mono ?_
              rintro e w5 ⟨rfl, rfl⟩
              go_wp2_with fail
              exact ⟨⟨k + 1, by omega, by go_num, Lib.hid (more.out (.inr E.out))⟩, by simp [intOf]; omega⟩
            · have E := Lib.hid e
              rw [show decide (l = l') = false by simp [e]] at EQ
              clear e
              have FE : Hid (rstE D M m = 30) := Lib.hid (by
                have h0 := H0.out
                rw [FF.out, fitB_false HL.out HL'.out (by omega) E.out]; rfl)
              go_wp2_with fail
              refine (EQ.out _ (Below.refl _ _)).mono ?_
              rintro e w5 ⟨rfl, rfl⟩
              go_wp2_with fail
              have Z := blk_set3 X4.out (.int .i64 0) (.int .i64 0) (.slice none 0 0)
              have e0 := blk_cell Z 0 _ rfl
              have e1 := blk_cell Z 1 _ rfl
              have e2 := blk_cell Z 2 _ rfl
              rw [rstS_err FE.out (by decide), FE.out]
              refine bodyPost_ret (v := .tuple #[Sv 0 0 (.slice none 0 0), .int .i64 30]) (by simp [results, Try.results36, go_sem, e0, e1, e2]) rfl (SEPost.none_ ?_)
              exact Bset3 N4.out (by omega) _ _ _
        · obtain rfl : k = m.length := by omega
          have FE : Hid (rstE D M m = 0) := Lib.hid (by
            rw [FF.out, fitB_true EL.out.symm (fun j l l' h h' => HN.out j l l' (get_lt h) h h')]; rfl)
          go_wp2_with fail
          have Z := blk_set3 X4.out (.int .i64 D) (.int .i64 M) (.slice Av m.length cv)
          have e0 := blk_cell Z 0 _ rfl
          have e1 := blk_cell Z 1 _ rfl
          have e2 := blk_cell Z 2 _ rfl
          rw [show rstS D M m = ((D : Int), (M : Int), enc dl M) by unfold rstS; rw [FE.out, if_pos rfl, HDL.out], FE.out]
          refine bodyPost_ret (v := .tuple #[Sv (D : Int) (M : Int) (.slice Av m.length cv), .int .i64 0]) (by simp [results, Try.results36, go_sem, e0, e1, e2]) rfl ⟨_, rfl, ⟨us, ?_⟩, ?_⟩
          · exact OF.out.set3_ X4.out _ _ _
          · exact Bset3 N4.out (by omega) _ _ _
end Go.Proofs.Ytmpmeeacdllomaa
