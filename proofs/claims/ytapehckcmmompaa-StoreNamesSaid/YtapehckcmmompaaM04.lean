/- Several texts in one. -/
import Derived.Test.YtapehckcmmompaaM03
namespace Go.Proofs.Ytapehckcmmompaa
open Go.ChangeShapes Go.WideShapes Go.ChangeAt Go.RowKit Gf
set_option linter.unusedVariables false
set_option maxRecDepth 100000
attribute [local go_sem ↓] Go.wp_at_zero Go.wp_at_succ
structure Okq (D M q : Nat) (m : List (List Nat)) : Prop where
 d1 : 1 ≤ D
 d8 : D ≤ 8
 m4 : M ≤ 4
 len : m.length = D + M
 q1 : 1 ≤ q
 q64 : q ≤ 64
 each : ∀ l ∈ m, l.length = 0 ∨ l.length = q
theorem Ok.q {D M : Nat} {m : List (List Nat)} (h : Ok D M m) : Okq D M (szL m) m := ⟨h.d1, h.d8, h.m4, h.len, h.s1, h.s64, h.each⟩
theorem Okq.size {D M q : Nat} {m : List (List Nat)} (h : Okq D M q m) (hl : lostN m ≤ M) : szL m = q := by
 have h0 : szL m ≠ 0 := fun e => by
  have := lost_all.2 e
  have := h.len
  have := h.d1
  omega
 obtain ⟨l, hl, e⟩ := szL_mem h0
 rcases h.each l hl with h1 | h1
 ·omega
 ·omega
theorem Okq.ok {D M q : Nat} {m : List (List Nat)} (h : Okq D M q m) (hl : lostN m ≤ M) : Ok D M m := by
 have e := h.size hl
 exact ⟨h.d1, h.d8, h.m4, h.len, by rw [e]; exact h.q1, by rw [e]; exact h.q64, fun l hl => by rw [e]; exact h.each l hl⟩
theorem solR_rows {D M : Nat} {m : List (List Nat)} (h : Ok D M m) (hl : lostN m ≤ M) : (solR D M m).length = (goneL D m).length ∧ ∀ l ∈ solR D M m, l.length = szL m := by
 have ce := cho_enough h.len hl
 have ML : (matM D m (choTo D m (goneL D m).length M)).length = (goneL D m).length := by rw [matM_len, ce]
 have RL : (matR D m (choTo D m (goneL D m).length M)).length = (goneL D m).length := by rw [matR_len, ce]
 have RR : ∀ l ∈ matR D m (choTo D m (goneL D m).length M), l.length = szL m := fun l hl => by
  simp only [matR, List.mem_map] at hl
  obtain ⟨x, hx, rfl⟩ := hl
  obtain ⟨x1, x2⟩ := (choTo_le D m (goneL D m).length M).2.2 x hx
  unfold syn
  rw [synTo_len]
  obtain ⟨z, hz⟩ := get_some (show D + x < m.length by rw [h.len]; omega)
  rw [getD_of hz] at x2 ⊢
  rcases h.each z (List.mem_of_getElem? hz) with h | h
  ·exact absurd h x2
  ·exact h
 have gl := gjTo_len (matM D m (choTo D m (goneL D m).length M)) (matR D m (choTo D m (goneL D m).length M)) (goneL D m).length
 have gr := gjTo_rows (matM_rows D m (choTo D m (goneL D m).length M)) RR (by rw [ML, RL]) (goneL D m).length (by rw [ML]; exact Nat.le_refl _)
 exact ⟨by unfold solR; rw [gl.2, RL], gr.2⟩
theorem dataL_rows {D M : Nat} {m : List (List Nat)} (h : Ok D M m) (hl : lostN m ≤ M) : ∀ l ∈ dataL D M m, l.length = szL m := fun l hl' => by
 simp only [dataL, List.mem_map, List.mem_range] at hl'
 obtain ⟨i, hi, rfl⟩ := hl'
 have s := solR_rows h hl
 split
 ·rename_i h0
  obtain ⟨y, hy⟩ := get_some (show (lostL m i).length < (solR D M m).length by rw [s.1]; exact lostL_lt hi h0)
  rw [getD_of hy]; exact s.2 y (List.mem_of_getElem? hy)
 ·rename_i h0
  obtain ⟨z, hz⟩ := get_some (show i < m.length by rw [h.len]; omega)
  rw [getD_of hz] at h0 ⊢
  rcases h.each z (List.mem_of_getElem? hz) with h | h
  ·exact absurd h h0
  ·exact h
theorem enc_len (d : List (List Nat)) (M : Nat) : (enc d M).length = d.length + M := by simp [enc]
theorem box3 {w : World} {b : Nat} {x y z : Value} {t : TypeId} (h : w.heap[b]? = some (.cells #[x, y, z] t)) : w.cell? ⟨b, 0, none⟩ = some x ∧ w.cell? ⟨b, 1, none⟩ = some y ∧ w.cell? ⟨b, 2, none⟩ = some z := ⟨blk_cell h 0 _ rfl, blk_cell h 1 _ rfl, blk_cell h 2 _ rfl⟩
theorem blk_drew {w : World} {b : Nat} {o : Obj} (h : w.heap[b]? = some o) : w.drew.heap[b]? = some o := h
theorem undrewB {a b : World} (h : Below a.drew.heap.size a.drew b) : Below a.heap.size a b := ⟨h.os, h.tape, h.output, h.size, h.block⟩
def rstE (D M : Nat) (m : List (List Nat)) : Int := if M < lostN m then 32 else if fitB m (enc (dataL D M m) M) then 0 else 30
def rstS (D M : Nat) (m : List (List Nat)) : St := if rstE D M m = 0 then ((D : Int), (M : Int), enc (dataL D M m) M) else (0, 0, [])
theorem rstS_err {D M : Nat} {m : List (List Nat)} {er : Int} (h : rstE D M m = er) (h0 : er ≠ 0) : rstS D M m = (0, 0, []) := by unfold rstS; rw [h, if_neg h0]
set_option maxRecDepth 100000 in
set_option maxHeartbeats 4000000 in
theorem restored_calls (A : Option Addr) (c B D M q : Nat) (m : List (List Nat)) (w : World) (hn : m.length ≤ c) (hc : c ≤ 9223372036854775807) (hs : RMA B w A m) (hok : Okq D M q m) :
  Calls Try.prog 66 #[Sv D M (.slice A m.length c)] w (SEPost w (rstS D M m) (rstE D M m)) := by
 have HS := Lib.hid hs
 have OKQ := Lib.hid hok
 clear hs hok
 go_enter Try.func66, Try.ntmps66
 go_upto_region 1 with fail
 have LC := Lib.hid (fun W (h : RMA B W A m) => lost_calls (D : Int) (M : Int) A c B m W hn hc h)
 have SB0 : Hid (((w.alloc (.cells #[.int .i64 D, .int .i64 M, .slice A m.length c] 54)).alloc (.cells #[.int .i64 0, .int .i64 0, .slice none 0 0] 54)).heap[w.heap.size]? = some (.cells #[.int .i64 D, .int .i64 M, .slice A m.length c] 54)) := Lib.hid (blk_alloc (blk_new w _) _)
 have X0 : Hid (((w.alloc (.cells #[.int .i64 D, .int .i64 M, .slice A m.length c] 54)).alloc (.cells #[.int .i64 0, .int .i64 0, .slice none 0 0] 54)).heap[w.heap.size + 1]? = some (.cells #[.int .i64 0, .int .i64 0, .slice none 0 0] 54)) := Lib.hid (blk_at _ (by simp))
 have N0 : Hid (Below w.heap.size w ((w.alloc (.cells #[.int .i64 D, .int .i64 M, .slice A m.length c] 54)).alloc (.cells #[.int .i64 0, .int .i64 0, .slice none 0 0] 54))) := Lib.hid (Bal (Bal (Below.refl _ _) _) _)
 generalize (w.alloc (.cells #[.int .i64 D, .int .i64 M, .slice A m.length c] 54)).alloc (.cells #[.int .i64 0, .int .i64 0, .slice none 0 0] 54) = W0 at *
 obtain ⟨z, hz⟩ : ∃ z, lostN m = z := ⟨_, rfl⟩
 rw [hz] at LC
 have HZ := Lib.hid hz
 clear hz
 have b0 : W0.cell? ⟨w.heap.size, 0, none⟩ = some (.int .i64 D) := blk_cell SB0.out 0 _ rfl
 have b1 : W0.cell? ⟨w.heap.size, 1, none⟩ = some (.int .i64 M) := blk_cell SB0.out 1 _ rfl
 have b2 : W0.cell? ⟨w.heap.size, 2, none⟩ = some (.slice A m.length c) := blk_cell SB0.out 2 _ rfl
 go_region_held3 (fun W => W.cell? ⟨w.heap.size, 0, none⟩ = some (.int .i64 D) ∧ W.cell? ⟨w.heap.size, 1, none⟩ = some (.int .i64 M) ∧ W.cell? ⟨w.heap.size, 2, none⟩ = some (.slice A m.length c)) (first | (exact ⟨blk_cell SB1.out 0 _ rfl, blk_cell SB1.out 1 _ rfl, blk_cell SB1.out 2 _ rfl⟩) | (exact ⟨blk_cell SB0.out 0 _ rfl, blk_cell SB0.out 1 _ rfl, blk_cell SB0.out 2 _ rfl⟩))
  ((go_at_call 75; refine (LC.out _ ?_).mono ?_; (first | exact HS.out.next N0.out | exact HS.out.next N0.out.drew); rintro e w1 ⟨rfl, hb1⟩; have N1 : Hid (Below w.heap.size w w1) := Lib.hid (by first | exact Bgo N0.out hb1 | exact Bgo N0.out.drew hb1); have SB1 : Hid (w1.heap[w.heap.size]? = some (.cells #[.int .i64 D, .int .i64 M, .slice A m.length c] 54)) := Lib.hid (by exact blk_next hb1 SB0.out); have X1 : Hid (w1.heap[w.heap.size + 1]? = some (.cells #[.int .i64 0, .int .i64 0, .slice none 0 0] 54)) := Lib.hid (by exact blk_next hb1 X0.out); clear hb1))
 clear b0 b1 b2 SB0 X0 N0
 have x0 : w1.cell? ⟨w.heap.size + 1, 0, none⟩ = some (.int .i64 0) := blk_cell X1.out 0 _ rfl
 have x1 : w1.cell? ⟨w.heap.size + 1, 1, none⟩ = some (.int .i64 0) := blk_cell X1.out 1 _ rfl
 have x2 : w1.cell? ⟨w.heap.size + 1, 2, none⟩ = some (.slice none 0 0) := blk_cell X1.out 2 _ rfl
 have f0 : w1.frozen? ⟨w.heap.size + 1, 0, none⟩ = false := blk_frozen X1.out 0
 have f1 : w1.frozen? ⟨w.heap.size + 1, 1, none⟩ = false := blk_frozen X1.out 1
 have f2 : w1.frozen? ⟨w.heap.size + 1, 2, none⟩ = false := blk_frozen X1.out 2
 by_cases hzM : M < z
 ·have FE : Hid (rstE D M m = 32) := Lib.hid (by unfold rstE; rw [HZ.out, if_pos hzM])
  go_wp2_with fail
  have Z := blk_set3 X1.out (.int .i64 0) (.int .i64 0) (.slice none 0 0)
  have e0 := blk_cell Z 0 _ rfl
  have e1 := blk_cell Z 1 _ rfl
  have e2 := blk_cell Z 2 _ rfl
  rw [rstS_err FE.out (by decide), FE.out]
  refine bodyPost_ret (v := .tuple #[Sv 0 0 (.slice none 0 0), .int .i64 32]) (by simp [results, Try.results66, go_sem, e0, e1, e2]) rfl (SEPost.none_ ?_)
  exact Bset3 N1.out (by omega) _ _ _
 ·have HL : Hid (lostN m ≤ M) := Lib.hid (by rw [HZ.out]; omega)
  have OK : Hid (Ok D M m) := Lib.hid (OKQ.out.ok HL.out)
  have FF : Hid (rstE D M m = if fitB m (enc (dataL D M m) M) then 0 else 30) := Lib.hid (by unfold rstE; rw [HZ.out, if_neg hzM])
  have DR := Lib.hid (dataL_rows OK.out HL.out)
  have DLN : Hid ((dataL D M m).length = D) := Lib.hid (dataL_len D M m)
  have DC := Lib.hid (fun W (h : RMA B W A m) => data_calls A c B D M m W hn hc h OK.out HL.out)
  have EC := Lib.hid (fun W A' c' (k1 : (dataL D M m).length ≤ c') (k2 : c' ≤ 9223372036854775807) (h : RMA 0 W A' (dataL D M m)) => encoded_calls A' c' 0 (dataL D M m) M (szL m) W k1 k2 h (by rw [DLN.out]; exact OK.out.d1) (by rw [DLN.out]; exact OK.out.d8) OK.out.m4 OK.out.s64 DR.out)
  unfold EncPost at EC
  simp only [DLN.out] at EC
  generalize hdl : dataL D M m = dl at *
  have HDL := Lib.hid hdl
  clear hdl
  clear x0 x1 x2 f0 f1 f2
  go_upto_region 3 with fail
  go_cut [4] (fun s4 wx => ∃ (rb : Nat) (v : Value), s4 = .pointer (some ⟨rb, 0, none⟩) ∧ w.heap.size + 1 < rb ∧ Hid (Below w.heap.size w wx) ∧ Hid (wx.heap[w.heap.size]? = some (.cells #[.int .i64 D, .int .i64 M, .slice A m.length c] 54)) ∧ Hid (wx.heap[w.heap.size + 1]? = some (.cells #[.int .i64 0, .int .i64 0, .slice none 0 0] 54)) ∧ Hid (wx.heap[rb]? = some (.cells #[.int .i64 D, .int .i64 M, v] 54)) ∧ Hid (OM w.heap.size wx v (enc dl M)))
  case first =>
   have b0 : w1.cell? ⟨w.heap.size, 0, none⟩ = some (.int .i64 D) := blk_cell SB1.out 0 _ rfl
   have b1 : w1.cell? ⟨w.heap.size, 1, none⟩ = some (.int .i64 M) := blk_cell SB1.out 1 _ rfl
   have b2 : w1.cell? ⟨w.heap.size, 2, none⟩ = some (.slice A m.length c) := blk_cell SB1.out 2 _ rfl
   have hz1 : w.heap.size + 1 < w1.heap.size := blk_lt X1.out
   have HZ1 := Lib.hid hz1
   go_region_held3 (fun W => W.cell? ⟨w.heap.size, 0, none⟩ = some (.int .i64 D) ∧ W.cell? ⟨w.heap.size, 1, none⟩ = some (.int .i64 M) ∧ W.cell? ⟨w.heap.size, 2, none⟩ = some (.slice A m.length c)) (first | (with_reducible exact box3 SB3.out) | (with_reducible exact box3 (blk_drew SB3.out)) | (with_reducible exact box3 (blk_alloc SB3.out _)) | (with_reducible exact box3 (blk_drew (blk_alloc SB3.out _))) | (with_reducible exact box3 SB2.out) | (with_reducible exact box3 (blk_drew SB2.out)) | (with_reducible exact box3 (blk_alloc SB2.out _)) | (with_reducible exact box3 (blk_drew (blk_alloc SB2.out _))) | (with_reducible exact box3 SB1.out) | (with_reducible exact box3 (blk_drew SB1.out)) | (with_reducible exact box3 (blk_alloc SB1.out _)) | (with_reducible exact box3 (blk_drew (blk_alloc SB1.out _))) | (with_reducible exact box3 (blk_set3_other SB3.out H31.out _ _ _)) | (with_reducible exact box3 (blk_set3_other SB3.out H32.out _ _ _)) | (with_reducible exact box3 (blk_drew (blk_set3_other SB3.out H31.out _ _ _))) | (with_reducible exact box3 (blk_drew (blk_set3_other SB3.out H32.out _ _ _))))
    (first
     | (go_at_call 84; refine (DC.out _ ?_).mono ?_; (refine HS.out.next ?_); (repeat (first | (with_reducible exact N1.out) | (with_reducible refine Below.drew ?_) | (with_reducible refine Bal ?_ _))); rintro e w2 ⟨v2, rfl, ⟨A2, c2, rfl, k1, k2, hr2⟩, hb2⟩; rw [DLN.out] at k1; rw [DLN.out]; have RD := Lib.hid hr2; have B2 : Hid (Below w1.heap.size w1 w2) := Lib.hid (by first | (with_reducible exact hb2) | (with_reducible exact undrewB hb2) | (with_reducible exact Bgo (Bal (Below.refl _ _) _) hb2) | (with_reducible exact Bgo (Bal (Below.refl _ _) _) (undrewB hb2))); have SB2 : Hid (w2.heap[w.heap.size]? = some (.cells #[.int .i64 D, .int .i64 M, .slice A m.length c] 54)) := Lib.hid (blk_next B2.out SB1.out); (first | (have R2 : Hid (w2.heap[w1.heap.size]? = some (.cells #[.int .i64 0, .int .i64 0, .slice none 0 0] 54)) := Lib.hid (by first | (with_reducible exact blk_next hb2 (blk_new w1 _)) | (with_reducible exact blk_next (undrewB hb2) (blk_new w1 _)))) | skip); clear hb2 hr2)
     | (go_at_call 64; refine (EC.out _ A2 c2 k1 k2 ?_).mono ?_; (refine RD.out.next ?_); (repeat (first | (with_reducible exact Below.refl _ _) | (with_reducible refine Below.drew ?_) | (with_reducible refine Bal ?_ _))); rintro e w3 ⟨v3, rfl, ⟨us3, ho3⟩, hb3⟩; obtain ⟨A3, c3, rfl, g31, g32, _⟩ := own_form ho3.top; have B3 : Hid (Below w2.heap.size w2 w3) := Lib.hid (by first | (with_reducible exact hb3) | (with_reducible exact undrewB hb3) | (with_reducible exact Bgo (Bal (Below.refl _ _) _) hb3) | (with_reducible exact Bgo (Bal (Below.refl _ _) _) (undrewB hb3))); have H31 : Hid (w1.heap.size ≠ w.heap.size) := Lib.hid (by have := HZ1.out; omega); have H32 : Hid (w2.heap.size ≠ w.heap.size) := Lib.hid (by have := HZ1.out; have := B2.out.size; omega); have SB3 : Hid (w3.heap[w.heap.size]? = some (.cells #[.int .i64 D, .int .i64 M, .slice A m.length c] 54)) := Lib.hid (blk_next B3.out SB2.out); have O3 : Hid (OMx w.heap.size w3 (.slice A3 (enc dl M).length c3) us3 (enc dl M)) := Lib.hid (ho3.mono (Nat.le_trans (Nat.le_trans N1.out.size B2.out.size) (by first | exact Nat.le_refl _ | exact (Bal (Below.refl _ _) _).size))); (first | (have R3 : Hid (w3.heap[w1.heap.size]? = some (.cells #[.int .i64 0, .int .i64 0, .slice none 0 0] 54)) := Lib.hid (by exact blk_next B3.out R2.out); have r0 := blk_cell R3.out 0 _ rfl; have r1 := blk_cell R3.out 1 _ rfl; have r2 := blk_cell R3.out 2 _ rfl; have q0 := blk_frozen R3.out 0; have q1 := blk_frozen R3.out 1; have q2 := blk_frozen R3.out 2) | (have R3 : Hid (w3.heap[w2.heap.size]? = some (.cells #[.int .i64 0, .int .i64 0, .slice none 0 0] 54)) := Lib.hid (by first | (with_reducible exact blk_next hb3 (blk_new w2 _)) | (with_reducible exact blk_next (undrewB hb3) (blk_new w2 _))); have r0 := blk_cell R3.out 0 _ rfl; have r1 := blk_cell R3.out 1 _ rfl; have r2 := blk_cell R3.out 2 _ rfl; have q0 := blk_frozen R3.out 0; have q1 := blk_frozen R3.out 1; have q2 := blk_frozen R3.out 2) | skip); clear hb3 ho3))
   ·go_wp2_with fail
    go_meet
    have X3 := blk_next B3.out (blk_next B2.out X1.out)
    have N3 := Bgo (Bgo N1.out B2.out) B3.out
    refine ⟨w3.heap.size, .slice A3 (enc dl M).length c3, rfl, by have := HZ1.out; have := B2.out.size; have := B3.out.size; omega, Lib.hid (Bal N3 _), Lib.hid (blk_alloc SB3.out _), Lib.hid (blk_alloc X3 _), Lib.hid (blk_new w3 _), Lib.hid ⟨us3, O3.out.next (Bal (Below.refl _ _) _)⟩⟩
   ·go_wp2_with fail
    go_meet
    have X3 := blk_next B3.out (blk_next B2.out X1.out)
    have N3 := Bgo (Bgo N1.out B2.out) B3.out
    have H33 : w2.heap.size ≠ w.heap.size + 1 := by have := HZ1.out; have := B2.out.size; omega
    have LW : w.heap.size ≤ w2.heap.size := by have := HZ1.out; have := B2.out.size; omega
    refine ⟨w2.heap.size, .slice A3 (enc dl M).length c3, rfl, by have := HZ1.out; have := B2.out.size; omega, Lib.hid (Bset3 N3 LW _ _ _), Lib.hid (blk_set3_other SB3.out H32.out _ _ _), Lib.hid (blk_set3_other X3 H33 _ _ _), Lib.hid (blk_set3 R3.out _ _ _), Lib.hid ⟨us3, O3.out.set3_ R3.out _ _ _⟩⟩
   ·go_wp2_with fail
    go_meet
    have X3 := blk_next B3.out (blk_next B2.out X1.out)
    have N3 := Bgo (Bgo N1.out B2.out) B3.out
    have H33 : w1.heap.size ≠ w.heap.size + 1 := by have := HZ1.out; omega
    have LW : w.heap.size ≤ w1.heap.size := by have := HZ1.out; omega
    refine ⟨w1.heap.size, .slice A3 (enc dl M).length c3, rfl, by have := HZ1.out; omega, Lib.hid (Bset3 N3 LW _ _ _), Lib.hid (blk_set3_other SB3.out H31.out _ _ _), Lib.hid (blk_set3_other X3 H33 _ _ _), Lib.hid (blk_set3 R3.out _ _ _), Lib.hid ⟨us3, O3.out.set3_ R3.out _ _ _⟩⟩
  case rest =>
   obtain ⟨rb, v, rfl, hrb, N4, SB4, X4, Y4, O4⟩ := hcut
   obtain ⟨us, ho⟩ := O4.out
   obtain ⟨Av, cv, rfl, hv1, hv2, _⟩ := own_form ho.top
   have EL : Hid ((enc dl M).length = m.length) := Lib.hid (by rw [enc_len, DLN.out, OK.out.len])
   rw [EL.out] at hv1 Y4 ho
   have OF := Lib.hid ho
   have RV := Lib.hid ho.rma
   have s2 : wc.cell? ⟨w.heap.size, 2, none⟩ = some (.slice A m.length c) := blk_cell SB4.out 2 _ rfl
   have y0 : wc.cell? ⟨rb, 0, none⟩ = some (.int .i64 D) := blk_cell Y4.out 0 _ rfl
   have y1 : wc.cell? ⟨rb, 1, none⟩ = some (.int .i64 M) := blk_cell Y4.out 1 _ rfl
   have y2 : wc.cell? ⟨rb, 2, none⟩ = some (.slice Av m.length cv) := blk_cell Y4.out 2 _ rfl
   have x0 : wc.cell? ⟨w.heap.size + 1, 0, none⟩ = some (.int .i64 0) := blk_cell X4.out 0 _ rfl
   have x1 : wc.cell? ⟨w.heap.size + 1, 1, none⟩ = some (.int .i64 0) := blk_cell X4.out 1 _ rfl
   have x2 : wc.cell? ⟨w.heap.size + 1, 2, none⟩ = some (.slice none 0 0) := blk_cell X4.out 2 _ rfl
   have f0 : wc.frozen? ⟨w.heap.size + 1, 0, none⟩ = false := blk_frozen X4.out 0
   have f1 : wc.frozen? ⟨w.heap.size + 1, 1, none⟩ = false := blk_frozen X4.out 1
   have f2 : wc.frozen? ⟨w.heap.size + 1, 2, none⟩ = false := blk_frozen X4.out 2
   clear ho O4
   go_wp2_with fail
   go_loop [21] (fun i => ∃ k : Nat, k ≤ m.length ∧ i = .int .i64 k ∧ Hid (∀ (j : Nat) (l l' : List Nat), j < k → m[j]? = some l → (enc dl M)[j]? = some l' → l.length = 0 ∨ l = l')) (fun i => m.length - (intOf i).toNat)
   case atStart => exact ⟨0, by omega, rfl, Lib.hid (fun j l l' h => by omega)⟩
   case round =>
    obtain ⟨k, hk, rfl, HN⟩ := hrel
    by_cases hlt : k < m.length
    ·obtain ⟨l, hl⟩ := get_some hlt
     obtain ⟨l', hl'⟩ := get_some (show k < (enc dl M).length by rw [EL.out]; exact hlt)
     obtain ⟨b, off, Ai, ci, rfl, hb, h1, h2, h3, h4⟩ := (HS.out.next N4.out).at_ hl
     obtain ⟨b', off', Ai', ci', rfl, hb', h1', h2', h3', h4'⟩ := RV.out.at_ hl'
     have EQ := Lib.hid (fun W (hW : Below wc.heap.size wc W) => equal_calls Ai Ai' ci ci' B w.heap.size l l' W h2 h3 (h4.next hW) h2' h3' (h4'.next hW))
     have HL := Lib.hid hl
     have HL' := Lib.hid hl'
     have k1 : (0 : Int) ≤ (k : Int) := by omega
     have k2 : (k : Int) < (m.length : Int) := by omega
     clear hl hl' h4 h4'
     have more : Hid ((l.length = 0 ∨ l = l') → ∀ (j : Nat) (x x' : List Nat), j < k + 1 → m[j]? = some x → (enc dl M)[j]? = some x' → x.length = 0 ∨ x = x') := Lib.hid (fun e j x x' hj hx hx' => by
      by_cases ej : j = k
      ·subst ej; rw [HL.out] at hx; rw [HL'.out] at hx'; cases hx; cases hx'; exact e
      ·exact HN.out j x x' (by omega) hx hx')
     by_cases h0 : l.length = 0
     ·have q1 : ((l.length : Int) != 0) = false := by rw [h0]; rfl
      have H0 := Lib.hid h0
      clear h0
      go_wp2_with fail
      exact ⟨⟨k + 1, by omega, by go_num, Lib.hid (more.out (.inl H0.out))⟩, by simp [intOf]; omega⟩
     ·have q1 : ((l.length : Int) != 0) = true := by rw [bne_iff_ne]; omega
      have H0 := Lib.hid h0
      clear h0
      by_cases e : l = l'
      ·have E := Lib.hid e
       rw [show decide (l = l') = true by simp [e]] at EQ
       clear e
       go_wp2_with fail
       refine (EQ.out _ (Below.refl _ _)).mono ?_
       rintro e w5 ⟨rfl, rfl⟩
       go_wp2_with fail
       exact ⟨⟨k + 1, by omega, by go_num, Lib.hid (more.out (.inr E.out))⟩, by simp [intOf]; omega⟩
      ·have E := Lib.hid e
       rw [show decide (l = l') = false by simp [e]] at EQ
       clear e
       have FE : Hid (rstE D M m = 30) := Lib.hid (by
        have h0 := H0.out
        rw [FF.out, fitB_false HL.out HL'.out (by omega) E.out]; rfl)
       go_wp2_with fail
       refine (EQ.out _ (Below.refl _ _)).mono ?_
       rintro e w5 ⟨rfl, rfl⟩
       go_wp2_with fail
       have Z := blk_set3 X4.out (.int .i64 0) (.int .i64 0) (.slice none 0 0)
       have e0 := blk_cell Z 0 _ rfl
       have e1 := blk_cell Z 1 _ rfl
       have e2 := blk_cell Z 2 _ rfl
       rw [rstS_err FE.out (by decide), FE.out]
       refine bodyPost_ret (v := .tuple #[Sv 0 0 (.slice none 0 0), .int .i64 30]) (by simp [results, Try.results66, go_sem, e0, e1, e2]) rfl (SEPost.none_ ?_)
       exact Bset3 N4.out (by omega) _ _ _
    ·obtain rfl : k = m.length := by omega
     have FE : Hid (rstE D M m = 0) := Lib.hid (by
      rw [FF.out, fitB_true EL.out.symm (fun j l l' h h' => HN.out j l l' (get_lt h) h h')]; rfl)
     go_wp2_with fail
     have Z := blk_set3 X4.out (.int .i64 D) (.int .i64 M) (.slice Av m.length cv)
     have e0 := blk_cell Z 0 _ rfl
     have e1 := blk_cell Z 1 _ rfl
     have e2 := blk_cell Z 2 _ rfl
     rw [show rstS D M m = ((D : Int), (M : Int), enc dl M) by unfold rstS; rw [FE.out, if_pos rfl, HDL.out], FE.out]
     refine bodyPost_ret (v := .tuple #[Sv (D : Int) (M : Int) (.slice Av m.length cv), .int .i64 0]) (by simp [results, Try.results66, go_sem, e0, e1, e2]) rfl ⟨_, rfl, ⟨us, ?_⟩, ?_⟩
     ·exact OF.out.set3_ X4.out _ _ _
     ·exact Bset3 N4.out (by omega) _ _ _
end Go.Proofs.Ytapehckcmmompaa
namespace Go.Proofs.Ytapehckcmmompaa
open Go.ChangeShapes Go.WideShapes Go.ChangeAt Go.RowKit Gf
set_option linter.unusedVariables false
set_option maxRecDepth 100000
attribute [local go_sem ↓] Go.wp_at_zero Go.wp_at_succ
def resE (D M : Int) (m : List (List Nat)) : Int := if chkE D M m = 0 then rstE D.toNat M.toNat m else chkE D M m
def resS (D M : Int) (m : List (List Nat)) : St := if resE D M m = 0 then (D, M, enc (dataL D.toNat M.toNat m) M.toNat) else (0, 0, [])
theorem resS_err {D M : Int} {m : List (List Nat)} {er : Int} (h : resE D M m = er) (h0 : er ≠ 0) : resS D M m = (0, 0, []) := by unfold resS; rw [h, if_neg h0]
set_option maxHeartbeats 1000000 in
theorem restore_calls (D M : Int) (A : Option Addr) (c B : Nat) (m : List (List Nat)) (w : World) (hn : m.length ≤ c) (hc : c ≤ 9223372036854775807) (hs : RMA B w A m) :
  Calls Try.prog 51 #[Sv D M (.slice A m.length c)] w (SEPost w (resS D M m) (resE D M m)) := by
 have HS := Lib.hid hs
 clear hs
 have CC := Lib.hid (fun W (h : RMA B W A m) => check_calls D M A c B m W hn hc h)
 by_cases ck : chkE D M m = 0
 ·obtain ⟨OKS, hD, hM⟩ := chkE_ok ck
  have FE : Hid (resE D M m = rstE D.toNat M.toNat m ∧ resS D M m = rstS D.toNat M.toNat m) := Lib.hid (by
   have e1 : resE D M m = rstE D.toNat M.toNat m := by unfold resE; rw [if_pos ck]
   refine ⟨e1, ?_⟩
   unfold resS rstS
   rw [e1, ← hD, ← hM])
  rw [ck] at CC
  generalize D.toNat = D' at *
  generalize M.toNat = M' at *
  subst hD hM
  have RC := Lib.hid (fun W (h : RMA B W A m) => restored_calls A c B D' M' (szL m) m W hn hc h OKS.q)
  rw [FE.out.1, FE.out.2]
  generalize rstE D' M' m = er at *
  generalize rstS D' M' m = rs at *
  obtain ⟨r1, r2, r3⟩ := rs
  clear ck OKS FE
  go_enter Try.func51, Try.ntmps51
  go_wp2_with fail
  refine (CC.out _ (HS.out.next (Bal (Bal (Below.refl _ _) _) _))).mono ?_
  rintro e w1 ⟨rfl, hb1⟩
  have N1 : Hid (Below w.heap.size w w1) := Lib.hid (Bgo (Bal (Bal (Below.refl _ _) _) _) hb1)
  have SB1 : Hid (w1.heap[w.heap.size]? = some (.cells #[.int .i64 D', .int .i64 M', .slice A m.length c] 54)) := Lib.hid (blk_next hb1 (blk_alloc (blk_new w _) _))
  have X1 : Hid (w1.heap[w.heap.size + 1]? = some (.cells #[.int .i64 0, .int .i64 0, .slice none 0 0] 54)) := Lib.hid (blk_next hb1 (blk_at _ (by simp)))
  have s0 : w1.cell? ⟨w.heap.size, 0, none⟩ = some (.int .i64 D') := blk_cell SB1.out 0 _ rfl
  have s1 : w1.cell? ⟨w.heap.size, 1, none⟩ = some (.int .i64 M') := blk_cell SB1.out 1 _ rfl
  have s2 : w1.cell? ⟨w.heap.size, 2, none⟩ = some (.slice A m.length c) := blk_cell SB1.out 2 _ rfl
  clear hb1
  go_wp2_with fail
  refine (RC.out _ (HS.out.next N1.out)).mono ?_
  rintro e w2 ⟨v, rfl, ⟨us, ho⟩, hb2⟩
  obtain ⟨Av, cv, rfl, hv1, hv2, _⟩ := own_form ho.top
  have X2 := Lib.hid (blk_next hb2 X1.out)
  have N2 := Lib.hid (Bgo N1.out hb2)
  have O2 := Lib.hid (ho.mono (B' := w.heap.size) N1.out.size)
  clear hb2 ho s0 s1 s2
  have x0 : w2.cell? ⟨w.heap.size + 1, 0, none⟩ = some (.int .i64 0) := blk_cell X2.out 0 _ rfl
  have x1 : w2.cell? ⟨w.heap.size + 1, 1, none⟩ = some (.int .i64 0) := blk_cell X2.out 1 _ rfl
  have x2 : w2.cell? ⟨w.heap.size + 1, 2, none⟩ = some (.slice none 0 0) := blk_cell X2.out 2 _ rfl
  have f0 : w2.frozen? ⟨w.heap.size + 1, 0, none⟩ = false := blk_frozen X2.out 0
  have f1 : w2.frozen? ⟨w.heap.size + 1, 1, none⟩ = false := blk_frozen X2.out 1
  have f2 : w2.frozen? ⟨w.heap.size + 1, 2, none⟩ = false := blk_frozen X2.out 2
  go_wp2_with fail
  have Z := blk_set3 X2.out (.int .i64 r1) (.int .i64 r2) (.slice Av r3.length cv)
  have e0 := blk_cell Z 0 _ rfl
  have e1 := blk_cell Z 1 _ rfl
  have e2 := blk_cell Z 2 _ rfl
  refine bodyPost_ret (v := .tuple #[Sv r1 r2 (.slice Av r3.length cv), .int .i64 er]) (by simp [results, Try.results51, go_sem, e0, e1, e2]) rfl ⟨_, rfl, ⟨us, ?_⟩, ?_⟩
  ·exact O2.out.set3_ X2.out _ _ _
  ·exact Bset3 N2.out (by omega) _ _ _
 ·have FE : Hid (resE D M m = chkE D M m) := Lib.hid (by unfold resE; rw [if_neg ck])
  have q : (chkE D M m != 0) = true := by rw [bne_iff_ne]; exact ck
  rw [resS_err FE.out ck, FE.out]
  generalize chkE D M m = er at *
  clear ck FE
  go_enter Try.func51, Try.ntmps51
  go_wp2_with fail
  refine (CC.out _ (HS.out.next (Bal (Bal (Below.refl _ _) _) _))).mono ?_
  rintro e w1 ⟨rfl, hb1⟩
  have N1 : Hid (Below w.heap.size w w1) := Lib.hid (Bgo (Bal (Bal (Below.refl _ _) _) _) hb1)
  have X1 : Hid (w1.heap[w.heap.size + 1]? = some (.cells #[.int .i64 0, .int .i64 0, .slice none 0 0] 54)) := Lib.hid (blk_next hb1 (blk_at _ (by simp)))
  clear hb1
  have x0 : w1.cell? ⟨w.heap.size + 1, 0, none⟩ = some (.int .i64 0) := blk_cell X1.out 0 _ rfl
  have x1 : w1.cell? ⟨w.heap.size + 1, 1, none⟩ = some (.int .i64 0) := blk_cell X1.out 1 _ rfl
  have x2 : w1.cell? ⟨w.heap.size + 1, 2, none⟩ = some (.slice none 0 0) := blk_cell X1.out 2 _ rfl
  have f0 : w1.frozen? ⟨w.heap.size + 1, 0, none⟩ = false := blk_frozen X1.out 0
  have f1 : w1.frozen? ⟨w.heap.size + 1, 1, none⟩ = false := blk_frozen X1.out 1
  have f2 : w1.frozen? ⟨w.heap.size + 1, 2, none⟩ = false := blk_frozen X1.out 2
  go_wp2_with fail
  have Z := blk_set3 X1.out (.int .i64 0) (.int .i64 0) (.slice none 0 0)
  have e0 := blk_cell Z 0 _ rfl
  have e1 := blk_cell Z 1 _ rfl
  have e2 := blk_cell Z 2 _ rfl
  refine bodyPost_ret (v := .tuple #[Sv 0 0 (.slice none 0 0), .int .i64 er]) (by simp [results, Try.results51, go_sem, e0, e1, e2]) rfl (SEPost.none_ ?_)
  exact Bset3 N1.out (by omega) _ _ _
def sndB (D M : Nat) (m : List (List Nat)) : Bool := decide (lostN m = 0) && decide (rstE D M m = 0)
set_option maxHeartbeats 1000000 in
theorem sound_calls (A : Option Addr) (c B D M q : Nat) (m : List (List Nat)) (w : World) (hn : m.length ≤ c) (hc : c ≤ 9223372036854775807) (hs : RMA B w A m) (hok : Okq D M q m) :
  Calls Try.prog 58 #[Sv D M (.slice A m.length c)] w fun e w' => e = .returned (.bool (sndB D M m)) ∧ Below w.heap.size w w' := by
 have HS := Lib.hid hs
 clear hs
 have LC := Lib.hid (fun W (h : RMA B W A m) => lost_calls (D : Int) (M : Int) A c B m W hn hc h)
 have RC := Lib.hid (fun W (h : RMA B W A m) => restored_calls A c B D M q m W hn hc h hok)
 have F : Hid (sndB D M m = (decide (lostN m = 0) && decide (rstE D M m = 0))) := Lib.hid rfl
 generalize sndB D M m = sb at *
 generalize lostN m = z at *
 generalize rstE D M m = er at *
 generalize rstS D M m = rs at *
 obtain ⟨r1, r2, r3⟩ := rs
 clear hok
 by_cases hz : 0 < z
 ·have F2 : Hid (sb = false) := Lib.hid (by rw [F.out, decide_eq_false (by omega)]; rfl)
  go_enter Try.func58, Try.ntmps58
  go_wp2_with fail
  refine (LC.out _ (HS.out.next (Bal (Below.refl _ _) _))).mono ?_
  rintro e w1 ⟨rfl, hb1⟩
  go_wp2_with fail
  go_ret
  exact ⟨ret_bool F2.out.symm, Bgo (Bal (Below.refl _ _) _) hb1⟩
 ·have F2 : Hid (sb = (er == 0)) := Lib.hid (by rw [F.out, decide_eq_true (by omega), Bool.true_and, Bool.eq_iff_iff]; simp)
  go_enter Try.func58, Try.ntmps58
  go_wp2_with fail
  refine (LC.out _ (HS.out.next (Bal (Below.refl _ _) _))).mono ?_
  rintro e w1 ⟨rfl, hb1⟩
  have N1 : Hid (Below w.heap.size w w1) := Lib.hid (Bgo (Bal (Below.refl _ _) _) hb1)
  have SB1 : Hid (w1.heap[w.heap.size]? = some (.cells #[.int .i64 D, .int .i64 M, .slice A m.length c] 54)) := Lib.hid (blk_next hb1 (blk_new w _))
  have s0 : w1.cell? ⟨w.heap.size, 0, none⟩ = some (.int .i64 D) := blk_cell SB1.out 0 _ rfl
  have s1 : w1.cell? ⟨w.heap.size, 1, none⟩ = some (.int .i64 M) := blk_cell SB1.out 1 _ rfl
  have s2 : w1.cell? ⟨w.heap.size, 2, none⟩ = some (.slice A m.length c) := blk_cell SB1.out 2 _ rfl
  clear hb1
  go_wp2_with fail
  refine (RC.out _ (HS.out.next N1.out)).mono ?_
  rintro e w2 ⟨v, rfl, ⟨us, ho⟩, hb2⟩
  obtain ⟨Av, cv, rfl, hv1, hv2, _⟩ := own_form ho.top
  have N2 := Lib.hid (Bgo N1.out hb2)
  clear hb2 ho s0 s1 s2
  go_wp2_with fail
  go_ret
  exact ⟨ret_bool F2.out.symm, Bal N2.out _⟩
def oneB (k i : Nat) : Bool := decide (i = k)
def fndTo (D M : Nat) (m : List (List Nat)) : Nat → Nat × Nat
 | 0 => (0, 0)
 | k + 1 => if rstE D M (keepL m (oneB k)) = 0 then (k, (fndTo D M m k).2 + 1) else fndTo D M m k
def fndV (D M : Int) (m : List (List Nat)) : Int × Int :=
 if chkE D M m ≠ 0 then (0, chkE D M m) else if 0 < lostN m then (0, 2) else if sndB D.toNat M.toNat m then (-1, 0)
 else if (fndTo D.toNat M.toNat m m.length).2 ≠ 1 then (0, 6) else ((fndTo D.toNat M.toNat m m.length).1, 0)
theorem find1_calls (x k gb : Nat) (w : World) (h : w.cell? ⟨gb, 0, none⟩ = some (.int .i64 (k : Int))) :
  Calls Try.prog 77 #[.int .i64 (x : Int), .pointer (some ⟨gb, 0, none⟩)] w fun e w' => e = .returned (.bool (oneB k x)) ∧ w = w' := by
 have F : Hid (oneB k x = ((x : Int) == (k : Int))) := Lib.hid (by unfold oneB; rw [Bool.eq_iff_iff]; simp; omega)
 generalize oneB k x = b at *
 go_enter Try.func77, Try.ntmps77
 go_wp2_with fail
 go_ret
 exact ⟨ret_bool F.out.symm, rfl⟩
theorem call_find1 (args : Array Value) (W : World) : Sem.run Try.prog (callFunc 77 args) W = .ok (.enter 77 args) W := by kernel_rfl
theorem Ok.keep {D M : Nat} {m : List (List Nat)} (h : Ok D M m) (p : Nat → Bool) : Okq D M (szL m) (keepL m p) :=
 ⟨h.d1, h.d8, h.m4, by rw [keepL_len]; exact h.len, h.s1, h.s64, fun l hl => by
  simp only [keepL, List.mem_map, List.mem_range] at hl
  obtain ⟨i, hi, rfl⟩ := hl
  split
  ·exact .inl rfl
  ·obtain ⟨z, hz⟩ := get_some hi
   rw [getD_of hz]; exact h.each z (List.mem_of_getElem? hz)⟩
end Go.Proofs.Ytapehckcmmompaa
namespace Go.Proofs.Ytapehckcmmompaa
open Go.ChangeShapes Go.WideShapes Go.ChangeAt Go.RowKit Gf
set_option linter.unusedVariables false
set_option maxRecDepth 100000
set_option linter.unusedSimpArgs false
attribute [local go_sem ↓] Go.wp_at_zero Go.wp_at_succ
theorem RMA.take_ {B : Nat} {w : World} {A : Option Addr} {m : List (List Nat)} (h : RMA B w A m) (k : Nat) : RMA B w A (m.take k) := by
 obtain ⟨us, h1, h2, h3⟩ := h
 refine ⟨us.take k, by rw [List.length_take, List.length_take, h1], h2.take_ k, fun i u l hu hl => ?_⟩
 rw [List.getElem?_take] at hu hl
 split at hu
 ·rename_i hi
  rw [if_pos hi] at hl
  exact h3 i u l hu hl
 ·cases hu
end Go.Proofs.Ytapehckcmmompaa
namespace Go.Proofs.Ytapehckcmmompaa
open Gf
set_option linter.unusedVariables false
set_option maxRecDepth 100000
def sumN (f : Nat → Nat) : Nat → Nat
 | 0 => 0
 | n + 1 => sumN f n ^^^ f n
theorem sumN_congr {f g : Nat → Nat} : ∀ {n : Nat}, (∀ k, k < n → f k = g k) → sumN f n = sumN g n
 | 0, _ => rfl
 | n + 1, h => by simp only [sumN]; rw [sumN_congr (fun k hk => h k (by omega)), h n (by omega)]
theorem sumN_xor (f g : Nat → Nat) (n : Nat) : sumN (fun k => f k ^^^ g k) n = sumN f n ^^^ sumN g n := by
 induction n with
 | zero => simp [sumN]
 | succ n ih => simp only [sumN]; rw [ih]; ac_rfl
theorem sumN_gm (c : Nat) (f : Nat → Nat) (n : Nat) : sumN (fun k => gm c (f k)) n = gm c (sumN f n) := by
 induction n with
 | zero => simp [sumN, gm_zero_right]
 | succ n ih => simp only [sumN]; rw [ih, gm_xor_right]
theorem sumN_zero {f : Nat → Nat} {n : Nat} (h : ∀ k, k < n → f k = 0) : sumN f n = 0 := by
 induction n with
 | zero => rfl
 | succ n ih => simp only [sumN]; rw [ih (fun k hk => h k (by omega)), h n (by omega)]; rfl
theorem sumN_one {f : Nat → Nat} {n i : Nat} (hi : i < n) (h : ∀ k, k < n → k ≠ i → f k = 0) : sumN f n = f i := by
 induction n with
 | zero => omega
 | succ n ih =>
  simp only [sumN]
  by_cases e : i = n
  ·subst e
   rw [sumN_zero (fun k hk => h k (by omega) (by omega)), Nat.zero_xor]
  ·rw [ih (by omega) (fun k hk hne => h k (by omega) hne), h n (by omega) (fun e' => e e'.symm), Nat.xor_zero]
theorem addR_getD {s b : List Nat} {f t : Nat} (h : t < s.length) : (addR s b f).getD t 0 = s.getD t 0 ^^^ gm f (b.getD t 0) := by
 simp only [addR, List.getD_eq_getElem?_getD, List.getElem?_map, List.getElem?_range h, Option.map_some, Option.getD_some]
theorem scaleR_getD (f : Nat) (l : List Nat) (t : Nat) : (scaleR f l).getD t 0 = gm f (l.getD t 0) := by
 simp only [scaleR, List.getD_eq_getElem?_getD, List.getElem?_map]
 cases l[t]? with
 | none => simp [gm_zero_right]
 | some x => rfl
theorem Byt.getD_ {l : List Nat} (h : Byt l) (t : Nat) : l.getD t 0 < 256 := by
 rw [List.getD_eq_getElem?_getD]
 cases e : l[t]? with
 | none => simp
 | some x => exact h.at_ e
theorem rows_getD {p : List Nat → Prop} {m : List (List Nat)} (h : ∀ l ∈ m, p l) (h0 : p []) (i : Nat) : p (m.getD i []) := by
 rw [List.getD_eq_getElem?_getD]
 cases e : m[i]? with
 | none => exact h0
 | some x => exact h x (List.mem_of_getElem? e)
theorem elim_getD {M L : List (List Nat)} {p r i : Nat} (hi : i < L.length) : (elim M L p r).getD i [] = if i = p then scaleR (pivF M p) (L.getD p []) else if i < r then addR (L.getD i []) (scaleR (pivF M p) (L.getD p [])) ((M.getD i []).getD p 0) else L.getD i [] :=
 getD_of (elim_at hi)
theorem pivF_lt {M : List (List Nat)} (h : ∀ l ∈ M, Byt l) (p : Nat) : pivF M p < 256 := gi_lt (Byt.getD_ (rows_getD h Byt.nil p) p)
theorem elim_byt {M L : List (List Nat)} {p r : Nat} (hM : ∀ l ∈ M, Byt l) (hL : ∀ l ∈ L, Byt l) : ∀ l ∈ elim M L p r, Byt l := fun l hl => by
 simp only [elim, List.mem_map, List.mem_range] at hl
 obtain ⟨i, hi, rfl⟩ := hl
 split
 ·exact scaleR_byt _ (pivF_lt hM p)
 ·split
  ·exact addR_byt (rows_getD hL Byt.nil i) (Byt.getD_ (rows_getD hM Byt.nil i) p)
  ·exact rows_getD hL Byt.nil i
theorem gjTo_byt {M R : List (List Nat)} (hM : ∀ l ∈ M, Byt l) : ∀ p, ∀ l ∈ (gjTo M R p).1, Byt l
 | 0 => hM
 | p + 1 => elim_byt (gjTo_byt hM p) (gjTo_byt hM p)
theorem gjTo_bytR {M R : List (List Nat)} (hM : ∀ l ∈ M, Byt l) (hR : ∀ l ∈ R, Byt l) : ∀ p, ∀ l ∈ (gjTo M R p).2, Byt l
 | 0 => hR
 | p + 1 => elim_byt (gjTo_byt hM p) (gjTo_bytR hM hR p)
theorem gjTo_fst (M R R' : List (List Nat)) : ∀ p, (gjTo M R p).1 = (gjTo M R' p).1
 | 0 => rfl
 | p + 1 => by simp only [gjTo]; rw [gjTo_fst M R R' p]
def Sol (M R : List (List Nat)) (x : Nat → Nat) (t n : Nat) : Prop := ∀ i, i < n → sumN (fun k => gm ((M.getD i []).getD k 0) (x k)) n = (R.getD i []).getD t 0
theorem dot_scale {r : List Nat} {x : Nat → Nat} {f n : Nat} (hf : f < 256) (hr : Byt r) (hx : ∀ k, x k < 256) : sumN (fun k => gm ((scaleR f r).getD k 0) (x k)) n = gm f (sumN (fun k => gm (r.getD k 0) (x k)) n) := by
 rw [← sumN_gm]
 exact sumN_congr fun k hk => by rw [scaleR_getD, gm_assoc hf (hr.getD_ k) (hx k)]
theorem dot_add {r s : List Nat} {x : Nat → Nat} {f n : Nat} (hf : f < 256) (hr : Byt r) (hs : Byt s) (hx : ∀ k, x k < 256) (hn : n ≤ r.length) : sumN (fun k => gm ((addR r s f).getD k 0) (x k)) n = sumN (fun k => gm (r.getD k 0) (x k)) n ^^^ gm f (sumN (fun k => gm (s.getD k 0) (x k)) n) := by
 rw [← sumN_gm, ← sumN_xor]
 exact sumN_congr fun k hk => by rw [addR_getD (by omega), gm_xor_left _ (hr.getD_ k) (gm_lt hf), gm_assoc hf (hs.getD_ k) (hx k)]
theorem len_getD {m : List (List Nat)} {q i : Nat} (h : ∀ l ∈ m, l.length = q) (hi : i < m.length) : (m.getD i []).length = q := by
 obtain ⟨l, hl⟩ := get_some hi
 rw [getD_of hl]; exact h l (List.mem_of_getElem? hl)
theorem elim_sol {M R : List (List Nat)} {x : Nat → Nat} {t n q p : Nat} (hM : M.length = n) (hR : R.length = n) (rM : ∀ l ∈ M, l.length = n) (rR : ∀ l ∈ R, l.length = q) (bM : ∀ l ∈ M, Byt l) (hx : ∀ k, x k < 256) (ht : t < q) (hp : p < n) (h : Sol M R x t n) :
  Sol (elim M M p n) (elim M R p n) x t n := fun i hi => by
 have B := fun i => rows_getD bM Byt.nil i
 rw [elim_getD (by omega), elim_getD (by omega)]
 by_cases e : i = p
 ·rw [if_pos e, if_pos e, dot_scale (pivF_lt bM p) (B p) hx, h p hp, scaleR_getD]
 ·rw [if_neg e, if_neg e, if_pos hi, if_pos hi, dot_add ((B i).getD_ p) (B i) (scaleR_byt _ (pivF_lt bM p)) hx (by rw [len_getD rM (by omega)]; exact Nat.le_refl _), dot_scale (pivF_lt bM p) (B p) hx, h i hi, h p hp,
   addR_getD (by rw [len_getD rR (by omega)]; exact ht), scaleR_getD]
theorem gjTo_sol {M R : List (List Nat)} {x : Nat → Nat} {t n q : Nat} (hM : M.length = n) (hR : R.length = n) (rM : ∀ l ∈ M, l.length = n) (rR : ∀ l ∈ R, l.length = q) (bM : ∀ l ∈ M, Byt l) (hx : ∀ k, x k < 256) (ht : t < q) (h : Sol M R x t n) :
  ∀ p, p ≤ n → Sol (gjTo M R p).1 (gjTo M R p).2 x t n
 | 0, _ => h
 | p + 1, hp => by
  have gl := gjTo_len M R p
  have gr := gjTo_rows rM rR (by omega) p (by omega)
  simp only [gjTo]
  rw [hM]
  exact elim_sol (by rw [gl.1, hM]) (by rw [gl.2, hR]) gr.1 gr.2 (gjTo_byt bM p) hx ht (by omega) (gjTo_sol hM hR rM rR bM hx ht h p (by omega))
def unitM (n : Nat) : List (List Nat) := (List.range n).map fun i => (List.range n).map fun k => if k = i then 1 else 0
theorem unit_getD {n i k : Nat} (hi : i < n) (hk : k < n) : ((unitM n).getD i []).getD k 0 = if k = i then 1 else 0 := by
 have : (unitM n)[i]? = some ((List.range n).map fun k => if k = i then 1 else 0) := by simp [unitM, hi]
 rw [getD_of this]
 simp [List.getD_eq_getElem?_getD, hk]
theorem sol_unit {R : List (List Nat)} {x : Nat → Nat} {t n i : Nat} (hx : ∀ k, x k < 256) (h : Sol (unitM n) R x t n) (hi : i < n) : (R.getD i []).getD t 0 = x i := by
 rw [← h i hi, sumN_one hi (fun k hk hne => by rw [unit_getD hi hk, if_neg hne, gm_zero_left]), unit_getD hi hi, if_pos rfl, gm_one_left (hx i)]
def subs : Nat → Nat → List (List Nat)
 | _, 0 => [[]]
 | 0, _ + 1 => []
 | n + 1, g + 1 => subs n (g + 1) ++ (subs n g).map (· ++ [n])
theorem subs_more {n g : Nat} {l : List Nat} (h : l ∈ subs n g) : l ∈ subs (n + 1) g := by
 cases g with
 | zero => simpa [subs] using h
 | succ g => rw [subs]; exact List.mem_append_left _ h
theorem subs_snoc {n g : Nat} {l : List Nat} (h : l ∈ subs n g) : l ++ [n] ∈ subs (n + 1) (g + 1) := by
 rw [subs]; exact List.mem_append_right _ (List.mem_map.2 ⟨l, h, rfl⟩)
theorem lostL_subs (m : List (List Nat)) : ∀ n, lostL m n ∈ subs n (lostL m n).length
 | 0 => by simp [lostL, subs]
 | n + 1 => by
  rw [lostL_more]
  split
  ·rw [List.length_append]; exact subs_snoc (lostL_subs m n)
  ·rw [List.append_nil]; exact subs_more (lostL_subs m n)
theorem choTo_subs (D : Nat) (m : List (List Nat)) (g : Nat) : ∀ k, choTo D m g k ∈ subs k (choTo D m g k).length
 | 0 => by simp [choTo, subs]
 | k + 1 => by
  rw [choTo]
  split
  ·rw [List.length_append]; exact subs_snoc (choTo_subs D m g k)
  ·exact subs_more (choTo_subs D m g k)
theorem subs_le {g : Nat} {l : List Nat} : ∀ {n k : Nat}, l ∈ subs n g → n ≤ k → l ∈ subs k g
 | n, 0, h, hk => by rw [Nat.le_zero.1 hk] at h; exact h
 | n, k + 1, h, hk => by
  by_cases e : n = k + 1
  ·rw [← e]; exact h
  ·exact subs_more (subs_le h (by omega))
def fN (x : Nat) (k : Nat → Bool) : Bool := match x with | 0 => k 0 | n + 1 => k (n + 1)
def fL : List Nat → (List Nat → Bool) → Bool
 | [], k => k []
 | x :: xs, k => fN x fun x' => fL xs fun xs' => k (x' :: xs')
def fM : List (List Nat) → (List (List Nat) → Bool) → Bool
 | [], k => k []
 | x :: xs, k => fL x fun x' => fM xs fun xs' => k (x' :: xs')
theorem fN_eq (x : Nat) (k : Nat → Bool) : fN x k = k x := by cases x <;> rfl
theorem fL_eq : ∀ (l : List Nat) (k : List Nat → Bool), fL l k = k l
 | [], k => rfl
 | x :: xs, k => by rw [fL, fN_eq, fL_eq xs]
theorem fM_eq : ∀ (l : List (List Nat)) (k : List (List Nat) → Bool), fM l k = k l
 | [], k => rfl
 | x :: xs, k => by rw [fM, fL_eq, fM_eq xs]
def chk (n : Nat) : Nat → Nat → List (List Nat) → Bool
 | 0, _, M => decide (M = unitM n)
 | r + 1, p, M => !((M.getD p []).getD p 0 == 0) && fM (elim M M p n) (chk n r (p + 1))
theorem chk_out {M : List (List Nat)} {n : Nat} (hM : M.length = n) : ∀ {r p : Nat}, p + r = n → chk n r p (gjTo M [] p).1 = true → (gjTo M [] n).1 = unitM n ∧ ∀ k, p ≤ k → k < n → ((gjTo M [] k).1.getD k []).getD k 0 ≠ 0
 | 0, p, hp, h => by
  have e : p = n := by omega
  subst e
  simp only [chk, decide_eq_true_eq] at h
  exact ⟨h, fun k h1 h2 => by omega⟩
 | r + 1, p, hp, h => by
  rw [chk, Bool.and_eq_true, fM_eq] at h
  have e : elim (gjTo M [] p).1 (gjTo M [] p).1 p n = (gjTo M [] (p + 1)).1 := by simp only [gjTo]; rw [hM]
  rw [e] at h
  have ih := chk_out hM (r := r) (p := p + 1) (by omega) h.2
  refine ⟨ih.1, fun k h1 h2 => ?_⟩
  by_cases e : k = p
  ·subst e; simpa using h.1
  ·exact ih.2 k (by omega) h2
def cauM (D : Nat) (gone cho : List Nat) : List (List Nat) := cho.map fun j => gone.map (fac D j)
def allOk (D g : Nat) : Bool := (subs D g).all fun gone => (subs 4 g).all fun cho => fM (cauM D gone cho) (chk g g 0)
theorem allOk_out {D g : Nat} (h : allOk D g = true) {gone cho : List Nat} (h1 : gone ∈ subs D g) (h2 : cho ∈ subs 4 g) (hg : cho.length = g) :
  (gjTo (cauM D gone cho) [] g).1 = unitM g ∧ ∀ k, k < g → ((gjTo (cauM D gone cho) [] k).1.getD k []).getD k 0 ≠ 0 := by
 unfold allOk at h
 have := List.all_eq_true.1 (List.all_eq_true.1 h gone h1) cho h2
 rw [fM_eq] at this
 have k := chk_out (M := cauM D gone cho) (n := g) (by simp [cauM, hg]) (r := g) (p := 0) (by omega) this
 exact ⟨k.1, fun i hi => k.2 i (by omega) hi⟩
end Go.Proofs.Ytapehckcmmompaa
namespace Go.Proofs.Ytapehckcmmompaa
open Gf
set_option maxRecDepth 100000
theorem all_1_0 : allOk 1 0 = true := by decide +kernel
theorem all_1_1 : allOk 1 1 = true := by decide +kernel
theorem all_1_2 : allOk 1 2 = true := by decide +kernel
theorem all_1_3 : allOk 1 3 = true := by decide +kernel
theorem all_1_4 : allOk 1 4 = true := by decide +kernel
theorem all_2_0 : allOk 2 0 = true := by decide +kernel
theorem all_2_1 : allOk 2 1 = true := by decide +kernel
theorem all_2_2 : allOk 2 2 = true := by decide +kernel
theorem all_2_3 : allOk 2 3 = true := by decide +kernel
theorem all_2_4 : allOk 2 4 = true := by decide +kernel
theorem all_3_0 : allOk 3 0 = true := by decide +kernel
theorem all_3_1 : allOk 3 1 = true := by decide +kernel
theorem all_3_2 : allOk 3 2 = true := by decide +kernel
theorem all_3_3 : allOk 3 3 = true := by decide +kernel
theorem all_3_4 : allOk 3 4 = true := by decide +kernel
theorem all_4_0 : allOk 4 0 = true := by decide +kernel
theorem all_4_1 : allOk 4 1 = true := by decide +kernel
theorem all_4_2 : allOk 4 2 = true := by decide +kernel
theorem all_4_3 : allOk 4 3 = true := by decide +kernel
theorem all_4_4 : allOk 4 4 = true := by decide +kernel
theorem all_5_0 : allOk 5 0 = true := by decide +kernel
theorem all_5_1 : allOk 5 1 = true := by decide +kernel
theorem all_5_2 : allOk 5 2 = true := by decide +kernel
theorem all_5_3 : allOk 5 3 = true := by decide +kernel
theorem all_5_4 : allOk 5 4 = true := by decide +kernel
theorem all_6_0 : allOk 6 0 = true := by decide +kernel
theorem all_6_1 : allOk 6 1 = true := by decide +kernel
theorem all_6_2 : allOk 6 2 = true := by decide +kernel
theorem all_6_3 : allOk 6 3 = true := by decide +kernel
theorem all_6_4 : allOk 6 4 = true := by decide +kernel
theorem all_7_0 : allOk 7 0 = true := by decide +kernel
theorem all_7_1 : allOk 7 1 = true := by decide +kernel
theorem all_7_2 : allOk 7 2 = true := by decide +kernel
theorem all_7_3 : allOk 7 3 = true := by decide +kernel
theorem all_7_4 : allOk 7 4 = true := by decide +kernel
theorem all_8_0 : allOk 8 0 = true := by decide +kernel
theorem all_8_1 : allOk 8 1 = true := by decide +kernel
theorem all_8_2 : allOk 8 2 = true := by decide +kernel
theorem all_8_3 : allOk 8 3 = true := by decide +kernel
theorem all_8_4 : allOk 8 4 = true := by decide +kernel
theorem all_ok {D g : Nat} (h1 : 1 ≤ D) (h8 : D ≤ 8) (hg : g ≤ 4) : allOk D g = true := by
 match D, g, h1, h8, hg with
 | 1, 0, _, _, _ => exact all_1_0
 | 1, 1, _, _, _ => exact all_1_1
 | 1, 2, _, _, _ => exact all_1_2
 | 1, 3, _, _, _ => exact all_1_3
 | 1, 4, _, _, _ => exact all_1_4
 | 2, 0, _, _, _ => exact all_2_0
 | 2, 1, _, _, _ => exact all_2_1
 | 2, 2, _, _, _ => exact all_2_2
 | 2, 3, _, _, _ => exact all_2_3
 | 2, 4, _, _, _ => exact all_2_4
 | 3, 0, _, _, _ => exact all_3_0
 | 3, 1, _, _, _ => exact all_3_1
 | 3, 2, _, _, _ => exact all_3_2
 | 3, 3, _, _, _ => exact all_3_3
 | 3, 4, _, _, _ => exact all_3_4
 | 4, 0, _, _, _ => exact all_4_0
 | 4, 1, _, _, _ => exact all_4_1
 | 4, 2, _, _, _ => exact all_4_2
 | 4, 3, _, _, _ => exact all_4_3
 | 4, 4, _, _, _ => exact all_4_4
 | 5, 0, _, _, _ => exact all_5_0
 | 5, 1, _, _, _ => exact all_5_1
 | 5, 2, _, _, _ => exact all_5_2
 | 5, 3, _, _, _ => exact all_5_3
 | 5, 4, _, _, _ => exact all_5_4
 | 6, 0, _, _, _ => exact all_6_0
 | 6, 1, _, _, _ => exact all_6_1
 | 6, 2, _, _, _ => exact all_6_2
 | 6, 3, _, _, _ => exact all_6_3
 | 6, 4, _, _, _ => exact all_6_4
 | 7, 0, _, _, _ => exact all_7_0
 | 7, 1, _, _, _ => exact all_7_1
 | 7, 2, _, _, _ => exact all_7_2
 | 7, 3, _, _, _ => exact all_7_3
 | 7, 4, _, _, _ => exact all_7_4
 | 8, 0, _, _, _ => exact all_8_0
 | 8, 1, _, _, _ => exact all_8_1
 | 8, 2, _, _, _ => exact all_8_2
 | 8, 3, _, _, _ => exact all_8_3
 | 8, 4, _, _, _ => exact all_8_4
 | D + 9, g, _, h, _ => omega
 | 1, g + 5, _, _, h => omega
 | 2, g + 5, _, _, h => omega
 | 3, g + 5, _, _, h => omega
 | 4, g + 5, _, _, h => omega
 | 5, g + 5, _, _, h => omega
 | 6, g + 5, _, _, h => omega
 | 7, g + 5, _, _, h => omega
 | 8, g + 5, _, _, h => omega
end Go.Proofs.Ytapehckcmmompaa
namespace Go.Proofs.Ytapehckcmmompaa
open Gf
set_option linter.unusedVariables false
set_option maxRecDepth 100000
theorem parTo_getD {d : List (List Nat)} {j t : Nat} (ht : t < (d.getD 0 []).length) : ∀ i, (parTo d j i).getD t 0 = sumN (fun k => gm (fac d.length j k) ((d.getD k []).getD t 0)) i
 | 0 => by
  have : (List.replicate (d.getD 0 []).length 0)[t]? = some 0 := by rw [List.getElem?_replicate, if_pos ht]
  rw [parTo, List.getD_eq_getElem?_getD, this]; rfl
 | i + 1 => by rw [parTo, addR_getD (by rw [parTo_len]; exact ht), parTo_getD ht i]; rfl
theorem synTo_getD {D : Nat} {m : List (List Nat)} {j t : Nat} (ht : t < (m.getD (D + j) []).length) : ∀ i, (synTo D m j i).getD t 0 = (m.getD (D + j) []).getD t 0 ^^^ sumN (fun k => gm (fac D j k) ((m.getD k []).getD t 0)) i
 | 0 => by simp [synTo, sumN]
 | i + 1 => by rw [synTo, addR_getD (by rw [synTo_len]; exact ht), synTo_getD ht i, Nat.xor_assoc]; rfl
theorem lostL_place {m : List (List Nat)} {n : Nat} (h0 : (m.getD n []).length = 0) : ∀ D, n < D → (lostL m D)[(lostL m n).length]? = some n
 | 0, h => by omega
 | D + 1, h => by
  rw [lostL_more]
  by_cases e : n = D
  ·subst e; rw [if_pos h0]; simp
  ·have ih := lostL_place h0 D (by omega)
   rw [List.getElem?_append_left (get_lt ih)]; exact ih
structure Fit (m r : List (List Nat)) : Prop where
 len : m.length = r.length
 each : ∀ i, (m.getD i []).length = 0 ∨ m.getD i [] = r.getD i []
theorem sum_lost {D j t : Nat} {m r : List (List Nat)} {x : Nat → Nat} (hf : ∀ i, i < D → (m.getD i []).length = 0 ∨ m.getD i [] = r.getD i []) (hx : ∀ i, i < D → (m.getD i []).length = 0 → x (lostL m i).length = (r.getD i []).getD t 0) :
  ∀ n, n ≤ D → sumN (fun k => gm (fac D j k) ((r.getD k []).getD t 0)) n ^^^ sumN (fun k => gm (fac D j k) ((m.getD k []).getD t 0)) n = sumN (fun k => gm (((lostL m n).map (fac D j)).getD k 0) (x k)) (lostL m n).length
 | 0, _ => by simp [sumN, lostL]
 | n + 1, h => by
  have ih := sum_lost hf hx n (by omega) (j := j)
  have e1 : sumN (fun k => gm (fac D j k) ((r.getD k []).getD t 0)) (n + 1) ^^^ sumN (fun k => gm (fac D j k) ((m.getD k []).getD t 0)) (n + 1) = (sumN (fun k => gm (fac D j k) ((r.getD k []).getD t 0)) n ^^^ sumN (fun k => gm (fac D j k) ((m.getD k []).getD t 0)) n) ^^^ (gm (fac D j n) ((r.getD n []).getD t 0) ^^^ gm (fac D j n) ((m.getD n []).getD t 0)) := by simp only [sumN]; ac_rfl
  rw [e1, ih, lostL_more]
  by_cases h0 : (m.getD n []).length = 0
  ·rw [if_pos h0, List.length_append, List.map_append]
   have em : m.getD n [] = [] := List.eq_nil_of_length_eq_zero h0
   show _ = sumN _ ((lostL m n).length + 1)
   simp only [sumN]
   congr 1
   ·refine sumN_congr fun k hk => ?_
    rw [List.getD_eq_getElem?_getD, List.getD_eq_getElem?_getD, List.getElem?_append_left (by simpa using hk)]
   ·rw [em, hx n (by omega) h0, List.getD_eq_getElem?_getD (l := List.map _ _ ++ _), List.getElem?_append_right (by simp)]
    simp [gm_zero_right]
  ·rw [if_neg h0, List.append_nil]
   have em : m.getD n [] = r.getD n [] := (hf n (by omega)).resolve_left h0
   rw [em, Nat.xor_self, Nat.xor_zero]
theorem okd_len {d : List (List Nat)} {q : Nat} (h : OkD d q) : (d.getD 0 []).length = q := len_getD h.each (by have := h.d1; omega)
theorem enc_lo {d : List (List Nat)} {M i : Nat} (hi : i < d.length) : (enc d M).getD i [] = d.getD i [] := by
 unfold enc
 rw [List.getD_eq_getElem?_getD, List.getElem?_append_left hi, ← List.getD_eq_getElem?_getD]
theorem enc_hi {d : List (List Nat)} {M j : Nat} (hj : j < M) : (enc d M).getD (d.length + j) [] = par d j := by
 unfold enc
 rw [List.getD_eq_getElem?_getD, List.getElem?_append_right (by omega)]
 simp [hj]
theorem par_len {d : List (List Nat)} {q : Nat} (h : OkD d q) (j : Nat) : (par d j).length = q := by unfold par; rw [parTo_len, okd_len h]
theorem enc_rows {d : List (List Nat)} {q : Nat} (h : OkD d q) (M : Nat) : ∀ l ∈ enc d M, l.length = q := fun l hl => by
 unfold enc at hl
 rcases List.mem_append.1 hl with h1 | h1
 ·exact h.each l h1
 ·obtain ⟨j, _, rfl⟩ := List.mem_map.1 h1
  exact par_len h j
theorem enc_byt {d : List (List Nat)} {q M : Nat} (h : OkD d q) (hb : ∀ l ∈ d, Byt l) (hM : M ≤ 4) : ∀ l ∈ enc d M, Byt l := fun l hl => by
 unfold enc at hl
 rcases List.mem_append.1 hl with h1 | h1
 ·exact hb l h1
 ·obtain ⟨j, hj, rfl⟩ := List.mem_map.1 h1
  exact parTo_byt h.d8 (by have := List.mem_range.1 hj; omega) _ (Nat.le_refl _)
theorem row_ext {a b : List Nat} {q : Nat} (ha : a.length = q) (hb : b.length = q) (h : ∀ t, t < q → a.getD t 0 = b.getD t 0) : a = b := by
 apply List.ext_getElem (by omega)
 intro t h1 h2
 have := h t (by omega)
 rw [List.getD_eq_getElem?_getD, List.getD_eq_getElem?_getD, List.getElem?_eq_getElem h1, List.getElem?_eq_getElem h2] at this
 exact this
theorem Fit.okq {d m : List (List Nat)} {q M : Nat} (h : OkD d q) (hM : M ≤ 4) (hf : Fit m (enc d M)) : Okq d.length M q m :=
 ⟨h.d1, h.d8, hM, by rw [hf.len, enc_len], h.n1, h.n64, fun l hl => by
  obtain ⟨i, hi, rfl⟩ := List.mem_iff_getElem.1 hl
  have e : m.getD i [] = m[i] := getD_of (List.getElem?_eq_getElem hi)
  rcases hf.each i with h1 | h1
  ·rw [e] at h1; exact .inl h1
  ·rw [e] at h1; rw [h1]; exact .inr (len_getD (enc_rows h M) (by rw [← hf.len]; exact hi))⟩
theorem data_back {d m : List (List Nat)} {q M : Nat} (h : OkD d q) (hb : ∀ l ∈ d, Byt l) (hM : M ≤ 4) (hf : Fit m (enc d M)) (hl : lostN m ≤ M) : dataL d.length M m = d := by
 have hq := hf.okq h hM
 have hok := hq.ok hl
 have hsz := hq.size hl
 have ce := cho_enough hok.len hl
 have d8 := h.d8
 have sr := solR_rows hok hl
 have lo : ∀ i, i < d.length → (m.getD i []).length = 0 ∨ m.getD i [] = d.getD i [] := fun i hi => by
  have := hf.each i
  rwa [enc_lo hi] at this
 have g4 : (goneL d.length m).length ≤ 4 := by
  have h1 : (goneL d.length m).length = lostN (m.take d.length) := lostL_count _ (by have := hok.len; omega)
  have := lost_split d.length m
  omega
 generalize hg : (goneL d.length m).length = g at *
 generalize hc : choTo d.length m g M = cho at *
 have cs : cho ∈ subs 4 g := by
  have := choTo_subs d.length m g M
  rw [hc, ce] at this
  exact subs_le this hM
 have gs : goneL d.length m ∈ subs d.length g := by
  have := lostL_subs m d.length
  unfold goneL at hg ⊢
  rwa [hg] at this
 obtain ⟨hu, _⟩ := allOk_out (all_ok h.d1 d8 g4) gs cs ce
 have em : matM d.length m cho = cauM d.length (goneL d.length m) cho := rfl
 have bM : ∀ l ∈ matM d.length m cho, Byt l := fun l hl => by
  simp only [matM, List.mem_map] at hl
  obtain ⟨j, hj, rfl⟩ := hl
  intro x hx
  obtain ⟨i, hi, rfl⟩ := List.mem_map.1 hx
  have hj' := ((choTo_le d.length m g M).2.2 j (by rw [hc]; exact hj)).1
  obtain ⟨k, hk⟩ := List.mem_iff_getElem?.1 hi
  have := (lostL_rank _ hk).1
  exact fac_lt (by omega) (by omega)
 have rR : ∀ l ∈ matR d.length m cho, l.length = q := fun l hl => by
  simp only [matR, List.mem_map] at hl
  obtain ⟨j, hj, rfl⟩ := hl
  obtain ⟨hj1, hj2⟩ := (choTo_le d.length m g M).2.2 j (by rw [hc]; exact hj)
  unfold syn
  rw [synTo_len]
  rcases hf.each (d.length + j) with h1 | h1
  ·exact absurd h1 hj2
  ·rw [h1, enc_hi hj1, par_len h]
 have key : ∀ i, i < d.length → (m.getD i []).length = 0 → (solR d.length M m).getD (lostL m i).length [] = d.getD i [] := fun i hi h0 => by
  have hlt : (lostL m i).length < g := by rw [← hg]; exact lostL_lt hi h0
  refine row_ext (q := q) (by rw [len_getD sr.2 (by rw [sr.1]; exact hlt)]; exact hsz) (len_getD h.each hi) fun t ht => ?_
  let x : Nat → Nat := fun k => (d.getD ((lostL m d.length).getD k 0) []).getD t 0
  have hx : ∀ k, x k < 256 := fun k => Byt.getD_ (rows_getD hb Byt.nil _) t
  have hxi : ∀ i, i < d.length → (m.getD i []).length = 0 → x (lostL m i).length = (d.getD i []).getD t 0 := fun i hi h0 => by
   show (d.getD ((lostL m d.length).getD _ 0) []).getD t 0 = _
   rw [List.getD_eq_getElem?_getD (l := lostL m d.length), lostL_place h0 _ hi]; rfl
  have so : Sol (matM d.length m cho) (matR d.length m cho) x t g := fun r hr => by
   obtain ⟨j, hj⟩ := get_some (show r < cho.length by rw [ce]; exact hr)
   obtain ⟨hj1, hj2⟩ := (choTo_le d.length m g M).2.2 j (by rw [hc]; exact List.mem_of_getElem? hj)
   have e1 : (matM d.length m cho).getD r [] = (goneL d.length m).map (fac d.length j) := getD_of (by simp [matM, hj])
   have e2 : (matR d.length m cho).getD r [] = syn d.length m j := getD_of (by simp [matR, hj])
   have e3 : m.getD (d.length + j) [] = par d j := by
    rcases hf.each (d.length + j) with h1 | h1
    ·exact absurd h1 hj2
    ·rw [h1, enc_hi hj1]
   rw [e1, e2]
   unfold syn
   rw [synTo_getD (by rw [e3, par_len h]; exact ht), e3]
   unfold par
   rw [parTo_getD (by rw [okd_len h]; exact ht)]
   rw [← hg]
   exact (sum_lost lo hxi _ (Nat.le_refl _)).symm
  have fin := gjTo_sol (by rw [matM_len, ce]) (by rw [matR_len, ce]) (fun l hl => by rw [← hg]; exact matM_rows _ _ _ l hl) rR bM hx ht so g (Nat.le_refl _)
  rw [gjTo_fst _ _ [], em, hu] at fin
  have := sol_unit hx fin hlt
  rw [hxi i hi h0] at this
  unfold solR
  rw [hg, hc]
  exact this
 apply List.ext_getElem?
 intro i
 by_cases hi : i < d.length
 ·rw [dataL_at hi, getD_get hi]
  by_cases h0 : (m.getD i []).length = 0
  ·rw [if_pos h0, key i hi h0]
  ·rw [if_neg h0, (lo i hi).resolve_left h0]
 ·rw [List.getElem?_eq_none (by rw [dataL_len]; omega), List.getElem?_eq_none (by omega)]
end Go.Proofs.Ytapehckcmmompaa
namespace Go.Proofs.Ytapehckcmmompaa
open Gf
set_option linter.unusedVariables false
set_option maxRecDepth 100000
theorem enc_take (d : List (List Nat)) (M : Nat) : (enc d M).take d.length = d := by simp [enc]
theorem Fit.fitB_ {m r : List (List Nat)} (h : Fit m r) : fitB m r = true := fitB_true h.len fun j l l' h1 h2 => by
 have := h.each j
 rw [getD_of h1, getD_of h2] at this
 exact this
theorem rst_back {d m : List (List Nat)} {q M : Nat} (h : OkD d q) (hb : ∀ l ∈ d, Byt l) (hM : M ≤ 4) (hf : Fit m (enc d M)) (hl : lostN m ≤ M) : rstE d.length M m = 0 := by
 unfold rstE
 rw [if_neg (by omega), data_back h hb hM hf hl, hf.fitB_, if_pos rfl]
end Go.Proofs.Ytapehckcmmompaa
