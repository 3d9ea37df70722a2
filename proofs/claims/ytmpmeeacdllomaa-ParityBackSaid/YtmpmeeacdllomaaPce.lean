/- The walk of ParityBack. -/
import Derived.Test.YtmpmeeacdllomaaPcd
import Derived.Test.YtmpmeeacdllomaaPbh
namespace Go.Proofs.Ytmpmeeacdllomaa
open Go.ChangeShapes Go.WideShapes Go.ChangeAt Go.RowKit Gf
set_option linter.unusedVariables false
attribute [local go_sem ↓] Go.wp_at_zero Go.wp_at_succ

set_option maxRecDepth 100000 in
set_option maxHeartbeats 8000000 in
theorem back_walk (A : Option Addr) (c : Nat) (d : List (List Nat)) (pm : Int) (Ad : Option Addr) (cd : Nat) (ds : List Int) (w : World) (hn : d.length ≤ c) (hc : c ≤ 9223372036854775807) (hs : RMA 0 w A d) (hn3 : ds.length ≤ cd) (hc3 : cd ≤ 9223372036854775807) (hs3 : RI 0 w Ad ds) :
    Calls Try.prog 7 #[.slice A d.length c, .int .i64 pm, .slice Ad ds.length cd] w fun e w' => e = .returned (.bool true) ∧ Below w.heap.size w w' := by
  have HS := Lib.hid hs
  have HS3 := Lib.hid hs3
  have HBY := Lib.hid hs.byt
  clear hs hs3
  have AL := Lib.hid (fun W => alive_calls W)
  have GB := Lib.hid (fun W (h : RMA 0 W A d) => refGreatBlocks_calls A c 0 d W hn hc h)
  have EC := Lib.hid (fun W (h : RMA 0 W A d) => encode_calls A c 0 d pm W hn hc h)
  have K0 : Hid (Below w.heap.size w w) := Lib.hid (Below.refl _ _)
  have g1 : greatB d = true ∨ greatB d = false := by cases greatB d <;> simp
  rcases g1 with g1 | g1
  · rw [g1] at GB
    go_enter Try.func7, Try.ntmps7
    go_wp2_with fail
    refine (AL.out _).mono ?_
    rintro e w1 ⟨rfl, hb⟩
    replace HS := Lib.hid (HS.out.next hb)
    replace HS3 := Lib.hid (HS3.out.next hb)
    replace K0 := Lib.hid (Bgo K0.out hb)
    clear hb
    go_wp2_with fail
    refine (GB.out _ HS.out).mono ?_
    rintro e w_ ⟨rfl, rfl⟩
    go_wp2_with fail
    go_ret
    exact ⟨rfl, K0.out⟩
  rw [g1] at GB
  by_cases h20 : 20 < ds.length
  · have h20' : decide ((20 : Int) < (ds.length : Int)) = true := decide_eq_true (by omega)
    go_enter Try.func7, Try.ntmps7
    go_wp2_with fail
    refine (AL.out _).mono ?_
    rintro e w1 ⟨rfl, hb⟩
    replace HS := Lib.hid (HS.out.next hb)
    replace HS3 := Lib.hid (HS3.out.next hb)
    replace K0 := Lib.hid (Bgo K0.out hb)
    clear hb
    go_wp2_with fail
    refine (GB.out _ HS.out).mono ?_
    rintro e w_ ⟨rfl, rfl⟩
    go_wp2_with fail
    go_ret
    exact ⟨rfl, K0.out⟩
  have h20' : decide ((20 : Int) < (ds.length : Int)) = false := decide_eq_false (by omega)
  clear h20
  by_cases he : encE d pm = 0
  rotate_left
  · rw [encS_err rfl he] at EC
    have he' : (encE d pm != 0) = true := by rw [bne_iff_ne]; exact he
    generalize encE d pm = ee at *
    clear he
    go_enter Try.func7, Try.ntmps7
    go_wp2_with fail
    refine (AL.out _).mono ?_
    rintro e w1 ⟨rfl, hb⟩
    replace HS := Lib.hid (HS.out.next hb)
    replace HS3 := Lib.hid (HS3.out.next hb)
    replace K0 := Lib.hid (Bgo K0.out hb)
    clear hb
    go_wp2_with fail
    refine (GB.out _ HS.out).mono ?_
    rintro e w_ ⟨rfl, rfl⟩
    go_wp2_with fail
    refine (EC.out _ HS.out).mono ?_
    rintro e w2 ⟨v_, rfl, ⟨us, ow_⟩, hb⟩
    obtain ⟨As, cs, rfl, hs1, hs2, _⟩ := own_form (show w2.ownsRow w1.heap.size 57 1 v_ (([] : List (List Nat))).length us from ow_.top)
    have HB : Hid (Below w1.heap.size w1 (w2.alloc (.cells #[.int .i64 0, .int .i64 0, .slice As (([] : List (List Nat))).length cs] 31))) := Lib.hid (Bal hb _)
    clear hb
    have Xs : Hid (OMx w1.heap.size (w2.alloc (.cells #[.int .i64 0, .int .i64 0, .slice As (([] : List (List Nat))).length cs] 31)) (.slice As (([] : List (List Nat))).length cs) us (([] : List (List Nat)))) := Lib.hid (ow_.next (Bal (Below.refl _ _) _))
    clear ow_
    replace HS := Lib.hid (HS.out.next HB.out)
    replace HS3 := Lib.hid (HS3.out.next HB.out)
    replace K0 := Lib.hid (Bgo K0.out HB.out)
    have Vs : Hid ((w2.alloc (.cells #[.int .i64 0, .int .i64 0, .slice As (([] : List (List Nat))).length cs] 31)).heap[w2.heap.size]? = some (.cells #[.int .i64 0, .int .i64 0, .slice As (([] : List (List Nat))).length cs] 31)) := Lib.hid (blk_new w2 _)
    clear HB
    go_wp2_with fail
    generalize w2.alloc (.cells #[.int .i64 0, .int .i64 0, .slice As (([] : List (List Nat))).length cs] 31) = W2 at *
    generalize w2.heap.size = gs at *
    have Rs := Lib.hid (Xs.out.rma.mono (B' := 0) (Nat.zero_le _))
    go_ret
    exact ⟨rfl, K0.out⟩
  obtain ⟨hD, hm0, hm4⟩ := encE_ok he
  obtain ⟨M, rfl⟩ := Int.eq_ofNat_of_zero_le hm0
  have hM : M ≤ 4 := by omega
  rw [encS_ok he, he, Int.toNat_natCast] at EC
  clear hm0 hm4 he
  generalize (d.getD 0 []).length = q at *
  have SC : Hid (∀ (W : World) (A : Option Addr) (c : Nat), (enc d M).length ≤ c → c ≤ 9223372036854775807 → RMA 0 W A (enc d M) → Calls Try.prog 28 #[Sv d.length M (.slice A (enc d M).length c)] W fun e w' => e = .returned (.tuple #[.bool true, .int .i64 0]) ∧ Below W.heap.size W w') := Lib.hid (fun W A c h1 h2 h => by
    have := soundX_calls d.length M A c 0 (enc d M) W h1 h2 h
    rw [enc_sd hD hM, enc_chk hD hM] at this
    exact this)
  have CC : Hid (∀ (W : World) (A : Option Addr) (c : Nat), (enc d M).length ≤ c → c ≤ 9223372036854775807 → RMA 0 W A (enc d M) → Calls Try.prog 30 #[Sv d.length M (.slice A (enc d M).length c)] W fun e w' => e = .returned (.int .i64 0) ∧ Below W.heap.size W w') := Lib.hid (fun W A c h1 h2 h => by
    have := check_calls d.length M A c 0 (enc d M) W h1 h2 h
    rw [enc_chk hD hM] at this
    exact this)
  have CC' : Hid (∀ (W : World) (A : Option Addr) (c : Nat), (enc d M).length ≤ c → c ≤ 9223372036854775807 → RMA 0 W A (enc d M) → Calls Try.prog 31 #[Sv d.length M (.slice A (enc d M).length c)] W fun e w' => e = .returned (.int .i64 0) ∧ Below W.heap.size W w') := Lib.hid (fun W A c h1 h2 h => by
    have := refCheck_calls d.length M A c 0 (enc d M) W h1 h2 h
    rw [enc_chk hD hM] at this
    exact this)
  have LC : Hid (∀ (W : World) (A : Option Addr) (c : Nat), (enc d M).length ≤ c → c ≤ 9223372036854775807 → RMA 0 W A (enc d M) → RI 0 W Ad ds → Calls Try.prog 26 #[Sv d.length M (.slice A (enc d M).length c), .slice Ad ds.length cd] W (SEPost W (loseS d.length M (enc d M) ds) (loseE d.length M (enc d M) ds))) := Lib.hid (fun W A c h1 h2 h h3 => lose_calls d.length M A c 0 (enc d M) Ad cd 0 ds W h1 h2 h hn3 hc3 h3)
  have EL : Hid (∀ (i : Nat) (l : List Nat), d[i]? = some l → (enc d M)[i]? = some l) := Lib.hid (fun i l h => by unfold enc; rw [List.getElem?_append_left (get_lt h)]; exact h)
  have LL : d.length ≤ (enc d M).length := by rw [enc_len]; omega
  have L100 : (enc d M).length ≤ 100 := by rw [enc_len]; have := hD.d8; omega
  have LCS := Lib.hid (lose_cases hD hM ds)
  have RB := Lib.hid (fun (m : List (List Nat)) (hf : Fit m (enc d M)) (hl : lostN m ≤ M) => res_back hD HBY.out hM hf hl)
  have RL := Lib.hid (fun (m : List (List Nat)) (hf : Fit m (enc d M)) (hl : M < lostN m) (hs : szL m ≠ 0) => res_lost hD hM hf hl hs)
  have FI := Lib.hid (keepL_fit (enc d M) (goneB ds))
  clear hD HBY
  generalize keepL (enc d M) (goneB ds) = t at *
  generalize enc d M = m at *
  generalize hDl : d.length = D at *
  have HDl := Lib.hid hDl
  clear hDl
  go_enter Try.func7, Try.ntmps7
  go_wp2_with fail
  refine (AL.out _).mono ?_
  rintro e w1 ⟨rfl, hb⟩
  replace HS := Lib.hid (HS.out.next hb)
  replace HS3 := Lib.hid (HS3.out.next hb)
  replace K0 := Lib.hid (Bgo K0.out hb)
  clear hb
  go_wp2_with fail
  refine (GB.out _ HS.out).mono ?_
  rintro e w_ ⟨rfl, rfl⟩
  go_wp2_with fail
  refine (EC.out _ HS.out).mono ?_
  rintro e w2 ⟨v_, rfl, ⟨us, ow_⟩, hb⟩
  obtain ⟨As, cs, rfl, hs1, hs2, _⟩ := own_form (show w2.ownsRow w1.heap.size 57 1 v_ (m).length us from ow_.top)
  have HB : Hid (Below w1.heap.size w1 (w2.alloc (.cells #[.int .i64 (D : Int), .int .i64 (M : Int), .slice As (m).length cs] 31))) := Lib.hid (Bal hb _)
  clear hb
  have Xs : Hid (OMx w1.heap.size (w2.alloc (.cells #[.int .i64 (D : Int), .int .i64 (M : Int), .slice As (m).length cs] 31)) (.slice As (m).length cs) us (m)) := Lib.hid (ow_.next (Bal (Below.refl _ _) _))
  clear ow_
  replace HS := Lib.hid (HS.out.next HB.out)
  replace HS3 := Lib.hid (HS3.out.next HB.out)
  replace K0 := Lib.hid (Bgo K0.out HB.out)
  have Vs : Hid ((w2.alloc (.cells #[.int .i64 (D : Int), .int .i64 (M : Int), .slice As (m).length cs] 31)).heap[w2.heap.size]? = some (.cells #[.int .i64 (D : Int), .int .i64 (M : Int), .slice As (m).length cs] 31)) := Lib.hid (blk_new w2 _)
  clear HB
  go_wp2_with fail
  generalize w2.alloc (.cells #[.int .i64 (D : Int), .int .i64 (M : Int), .slice As (m).length cs] 31) = W2 at *
  generalize w2.heap.size = gs at *
  have Rs := Lib.hid (Xs.out.rma.mono (B' := 0) (Nat.zero_le _))
  refine (SC.out _ _ _ hs1 hs2 Rs.out).mono ?_
  rintro e w3 ⟨rfl, hb⟩
  replace Vs := Lib.hid (blk_next hb Vs.out)
  replace HS := Lib.hid (HS.out.next hb)
  replace HS3 := Lib.hid (HS3.out.next hb)
  replace Xs := Lib.hid (Xs.out.next hb)
  replace Rs := Lib.hid (Rs.out.next hb)
  replace K0 := Lib.hid (Bgo K0.out hb)
  clear hb
  have slVs := blk_lt Vs.out
  have sVs0 := blk_cell Vs.out 0 _ rfl
  have sVs1 := blk_cell Vs.out 1 _ rfl
  have sVs2 := blk_cell Vs.out 2 _ rfl
  go_wp2_with fail
  refine (CC.out _ _ _ hs1 hs2 Rs.out).mono ?_
  rintro e w4 ⟨rfl, hb⟩
  clear slVs sVs0 sVs1 sVs2
  replace Vs := Lib.hid (blk_next hb Vs.out)
  replace HS := Lib.hid (HS.out.next hb)
  replace HS3 := Lib.hid (HS3.out.next hb)
  replace Xs := Lib.hid (Xs.out.next hb)
  replace Rs := Lib.hid (Rs.out.next hb)
  replace K0 := Lib.hid (Bgo K0.out hb)
  clear hb
  have slVs := blk_lt Vs.out
  have sVs0 := blk_cell Vs.out 0 _ rfl
  have sVs1 := blk_cell Vs.out 1 _ rfl
  have sVs2 := blk_cell Vs.out 2 _ rfl
  go_wp2_with fail
  refine (CC'.out _ _ _ hs1 hs2 Rs.out).mono ?_
  rintro e w5 ⟨rfl, hb⟩
  clear slVs sVs0 sVs1 sVs2
  replace Vs := Lib.hid (blk_next hb Vs.out)
  replace HS := Lib.hid (HS.out.next hb)
  replace HS3 := Lib.hid (HS3.out.next hb)
  replace Xs := Lib.hid (Xs.out.next hb)
  replace Rs := Lib.hid (Rs.out.next hb)
  replace K0 := Lib.hid (Bgo K0.out hb)
  clear hb
  have slVs := blk_lt Vs.out
  have sVs0 := blk_cell Vs.out 0 _ rfl
  have sVs1 := blk_cell Vs.out 1 _ rfl
  have sVs2 := blk_cell Vs.out 2 _ rfl
  go_wp2_with fail
  clear slVs sVs0 sVs1 sVs2
  go_loopw [12] (fun i wr => ∃ k : Nat, k ≤ D ∧ i = .int .i64 k ∧ Hid (Below w5.heap.size w5 wr)) (fun i _ => D - (intOf i).toNat)
  case atStart => exact ⟨0, by omega, rfl, Lib.hid (Below.refl _ _)⟩
  case round =>
    obtain ⟨k, hk, rfl, HX⟩ := hrel
    replace Vs := Lib.hid (blk_next HX.out Vs.out)
    replace HS := Lib.hid (HS.out.next HX.out)
    replace HS3 := Lib.hid (HS3.out.next HX.out)
    replace Xs := Lib.hid (Xs.out.next HX.out)
    replace Rs := Lib.hid (Rs.out.next HX.out)
    replace K0 := Lib.hid (Bgo K0.out HX.out)
    by_cases hlt : k < D
    · obtain ⟨l, hl⟩ := get_some (show k < d.length by rw [HDl.out]; exact hlt)
      obtain ⟨b1, o1, A1, c1, rfl, hb1, h11, h12, h13, h14⟩ := HS.out.at_ hl
      obtain ⟨b2, o2, A2, c2, rfl, hb2, h21, h22, h23, h24⟩ := Rs.out.at_ (EL.out k l hl)
      have cv1 : ∀ nq, (convert 57 9 (.slice A1 l.length c1)).run Try.prog (wr.drewN nq) = .ok (.string (bstr l)) (wr.drewN nq) := fun nq => conv_rba c1 (h14.drewN nq)
      have cv2 : ∀ nq, (convert 57 9 (.slice A2 l.length c2)).run Try.prog (wr.drewN nq) = .ok (.string (bstr l)) (wr.drewN nq) := fun nq => conv_rba c2 (h24.drewN nq)
      have k1 : (0 : Int) ≤ (k : Int) := by omega
      have k2 : (k : Int) < (m.length : Int) := by omega
      have k3 : (k : Int) < (D : Int) := by omega
      have q' : ((bstr l).toList == (bstr l).toList) = true := by simp
      generalize bstr l = sl at *
      clear hl h14 h24
      have slVs := blk_lt Vs.out
      have sVs2 := blk_cell Vs.out 2 _ rfl
      go_wp2_with fail
      go_quiet (fail)
      go_wp2_with fail
      refine ⟨⟨k + 1, by omega, by go_num, Lib.hid (below_drewN HX.out _)⟩, by simp [intOf]; omega⟩
    · obtain rfl : D = k := by omega
      have slVs := blk_lt Vs.out
      have sVs0 := blk_cell Vs.out 0 _ rfl
      have sVs1 := blk_cell Vs.out 1 _ rfl
      have sVs2 := blk_cell Vs.out 2 _ rfl
      rcases LCS.out with (h | h | h) | ⟨h, hS, hz, hl⟩
      · rw [loseS_err h (by decide), h] at LC
        clear h LCS
        go_wp2_with fail
        refine (LC.out _ _ _ hs1 hs2 Rs.out HS3.out).mono ?_
        rintro e w6 ⟨v_, rfl, ⟨ut, ow_⟩, hb⟩
        obtain ⟨At, ct, rfl, ht1, ht2, _⟩ := own_form (show w6.ownsRow wr.heap.size 57 1 v_ (([] : List (List Nat))).length ut from ow_.top)
        clear slVs sVs0 sVs1 sVs2
        have HB : Hid (Below wr.heap.size wr (w6.alloc (.cells #[.int .i64 0, .int .i64 0, .slice At (([] : List (List Nat))).length ct] 31))) := Lib.hid (Bal hb _)
        clear hb
        have Xt : Hid (OMx wr.heap.size (w6.alloc (.cells #[.int .i64 0, .int .i64 0, .slice At (([] : List (List Nat))).length ct] 31)) (.slice At (([] : List (List Nat))).length ct) ut (([] : List (List Nat)))) := Lib.hid (ow_.next (Bal (Below.refl _ _) _))
        clear ow_
        replace Vs := Lib.hid (blk_next HB.out Vs.out)
        replace HS := Lib.hid (HS.out.next HB.out)
        replace HS3 := Lib.hid (HS3.out.next HB.out)
        replace Xs := Lib.hid (Xs.out.next HB.out)
        replace Rs := Lib.hid (Rs.out.next HB.out)
        replace K0 := Lib.hid (Bgo K0.out HB.out)
        have Vt : Hid ((w6.alloc (.cells #[.int .i64 0, .int .i64 0, .slice At (([] : List (List Nat))).length ct] 31)).heap[w6.heap.size]? = some (.cells #[.int .i64 0, .int .i64 0, .slice At (([] : List (List Nat))).length ct] 31)) := Lib.hid (blk_new w6 _)
        clear HB
        go_wp2_with fail
        generalize w6.alloc (.cells #[.int .i64 0, .int .i64 0, .slice At (([] : List (List Nat))).length ct] 31) = W6 at *
        generalize w6.heap.size = gt at *
        have Rt := Lib.hid (Xt.out.rma.mono (B' := 0) (Nat.zero_le _))
        go_ret
        exact ⟨rfl, K0.out⟩
      · rw [loseS_err h (by decide), h] at LC
        clear h LCS
        go_wp2_with fail
        refine (LC.out _ _ _ hs1 hs2 Rs.out HS3.out).mono ?_
        rintro e w6 ⟨v_, rfl, ⟨ut, ow_⟩, hb⟩
        obtain ⟨At, ct, rfl, ht1, ht2, _⟩ := own_form (show w6.ownsRow wr.heap.size 57 1 v_ (([] : List (List Nat))).length ut from ow_.top)
        clear slVs sVs0 sVs1 sVs2
        have HB : Hid (Below wr.heap.size wr (w6.alloc (.cells #[.int .i64 0, .int .i64 0, .slice At (([] : List (List Nat))).length ct] 31))) := Lib.hid (Bal hb _)
        clear hb
        have Xt : Hid (OMx wr.heap.size (w6.alloc (.cells #[.int .i64 0, .int .i64 0, .slice At (([] : List (List Nat))).length ct] 31)) (.slice At (([] : List (List Nat))).length ct) ut (([] : List (List Nat)))) := Lib.hid (ow_.next (Bal (Below.refl _ _) _))
        clear ow_
        replace Vs := Lib.hid (blk_next HB.out Vs.out)
        replace HS := Lib.hid (HS.out.next HB.out)
        replace HS3 := Lib.hid (HS3.out.next HB.out)
        replace Xs := Lib.hid (Xs.out.next HB.out)
        replace Rs := Lib.hid (Rs.out.next HB.out)
        replace K0 := Lib.hid (Bgo K0.out HB.out)
        have Vt : Hid ((w6.alloc (.cells #[.int .i64 0, .int .i64 0, .slice At (([] : List (List Nat))).length ct] 31)).heap[w6.heap.size]? = some (.cells #[.int .i64 0, .int .i64 0, .slice At (([] : List (List Nat))).length ct] 31)) := Lib.hid (blk_new w6 _)
        clear HB
        go_wp2_with fail
        generalize w6.alloc (.cells #[.int .i64 0, .int .i64 0, .slice At (([] : List (List Nat))).length ct] 31) = W6 at *
        generalize w6.heap.size = gt at *
        have Rt := Lib.hid (Xt.out.rma.mono (B' := 0) (Nat.zero_le _))
        go_ret
        exact ⟨rfl, K0.out⟩
      · rw [loseS_err h (by decide), h] at LC
        clear h LCS
        go_wp2_with fail
        refine (LC.out _ _ _ hs1 hs2 Rs.out HS3.out).mono ?_
        rintro e w6 ⟨v_, rfl, ⟨ut, ow_⟩, hb⟩
        obtain ⟨At, ct, rfl, ht1, ht2, _⟩ := own_form (show w6.ownsRow wr.heap.size 57 1 v_ (([] : List (List Nat))).length ut from ow_.top)
        clear slVs sVs0 sVs1 sVs2
        have HB : Hid (Below wr.heap.size wr (w6.alloc (.cells #[.int .i64 0, .int .i64 0, .slice At (([] : List (List Nat))).length ct] 31))) := Lib.hid (Bal hb _)
        clear hb
        have Xt : Hid (OMx wr.heap.size (w6.alloc (.cells #[.int .i64 0, .int .i64 0, .slice At (([] : List (List Nat))).length ct] 31)) (.slice At (([] : List (List Nat))).length ct) ut (([] : List (List Nat)))) := Lib.hid (ow_.next (Bal (Below.refl _ _) _))
        clear ow_
        replace Vs := Lib.hid (blk_next HB.out Vs.out)
        replace HS := Lib.hid (HS.out.next HB.out)
        replace HS3 := Lib.hid (HS3.out.next HB.out)
        replace Xs := Lib.hid (Xs.out.next HB.out)
        replace Rs := Lib.hid (Rs.out.next HB.out)
        replace K0 := Lib.hid (Bgo K0.out HB.out)
        have Vt : Hid ((w6.alloc (.cells #[.int .i64 0, .int .i64 0, .slice At (([] : List (List Nat))).length ct] 31)).heap[w6.heap.size]? = some (.cells #[.int .i64 0, .int .i64 0, .slice At (([] : List (List Nat))).length ct] 31)) := Lib.hid (blk_new w6 _)
        clear HB
        go_wp2_with fail
        generalize w6.alloc (.cells #[.int .i64 0, .int .i64 0, .slice At (([] : List (List Nat))).length ct] 31) = W6 at *
        generalize w6.heap.size = gt at *
        have Rt := Lib.hid (Xt.out.rma.mono (B' := 0) (Nat.zero_le _))
        go_ret
        exact ⟨rfl, K0.out⟩
      · rw [hS, h] at LC
        clear LCS h hS
        by_cases hcmp : M < ds.length
        · have hcmp' : decide ((M : Int) < (ds.length : Int)) = true := decide_eq_true (by omega)
          have RC := Lib.hid (fun (W : World) (A : Option Addr) (c : Nat) (h1 : t.length ≤ c) (h2 : c ≤ 9223372036854775807) (h : RMA 0 W A t) => restore_calls D M A c 0 t W h1 h2 h)
          have RE := RL.out t FI.out (by omega) hz
          rw [RE.1, RE.2] at RC
          clear RE hz hl RB RL
          go_wp2_with fail
          refine (LC.out _ _ _ hs1 hs2 Rs.out HS3.out).mono ?_
          rintro e w6 ⟨v_, rfl, ⟨ut, ow_⟩, hb⟩
          obtain ⟨At, ct, rfl, ht1, ht2, _⟩ := own_form (show w6.ownsRow wr.heap.size 57 1 v_ (t).length ut from ow_.top)
          clear slVs sVs0 sVs1 sVs2
          have HB : Hid (Below wr.heap.size wr (w6.alloc (.cells #[.int .i64 (D : Int), .int .i64 (M : Int), .slice At (t).length ct] 31))) := Lib.hid (Bal hb _)
          clear hb
          have Xt : Hid (OMx wr.heap.size (w6.alloc (.cells #[.int .i64 (D : Int), .int .i64 (M : Int), .slice At (t).length ct] 31)) (.slice At (t).length ct) ut (t)) := Lib.hid (ow_.next (Bal (Below.refl _ _) _))
          clear ow_
          replace Vs := Lib.hid (blk_next HB.out Vs.out)
          replace HS := Lib.hid (HS.out.next HB.out)
          replace HS3 := Lib.hid (HS3.out.next HB.out)
          replace Xs := Lib.hid (Xs.out.next HB.out)
          replace Rs := Lib.hid (Rs.out.next HB.out)
          replace K0 := Lib.hid (Bgo K0.out HB.out)
          have Vt : Hid ((w6.alloc (.cells #[.int .i64 (D : Int), .int .i64 (M : Int), .slice At (t).length ct] 31)).heap[w6.heap.size]? = some (.cells #[.int .i64 (D : Int), .int .i64 (M : Int), .slice At (t).length ct] 31)) := Lib.hid (blk_new w6 _)
          clear HB
          go_wp2_with fail
          generalize w6.alloc (.cells #[.int .i64 (D : Int), .int .i64 (M : Int), .slice At (t).length ct] 31) = W6 at *
          generalize w6.heap.size = gt at *
          have Rt := Lib.hid (Xt.out.rma.mono (B' := 0) (Nat.zero_le _))
          refine (RC.out _ _ _ ht1 ht2 Rt.out).mono ?_
          rintro e w7 ⟨v_, rfl, ⟨uu, ow_⟩, hb⟩
          obtain ⟨Au, cu, rfl, hu1, hu2, _⟩ := own_form (show w7.ownsRow W6.heap.size 57 1 v_ (([] : List (List Nat))).length uu from ow_.top)
          have HB : Hid (Below W6.heap.size W6 (w7.alloc (.cells #[.int .i64 0, .int .i64 0, .slice Au (([] : List (List Nat))).length cu] 31))) := Lib.hid (Bal hb _)
          clear hb
          have Xu : Hid (OMx W6.heap.size (w7.alloc (.cells #[.int .i64 0, .int .i64 0, .slice Au (([] : List (List Nat))).length cu] 31)) (.slice Au (([] : List (List Nat))).length cu) uu (([] : List (List Nat)))) := Lib.hid (ow_.next (Bal (Below.refl _ _) _))
          clear ow_
          replace Vs := Lib.hid (blk_next HB.out Vs.out)
          replace Vt := Lib.hid (blk_next HB.out Vt.out)
          replace HS := Lib.hid (HS.out.next HB.out)
          replace HS3 := Lib.hid (HS3.out.next HB.out)
          replace Xs := Lib.hid (Xs.out.next HB.out)
          replace Rs := Lib.hid (Rs.out.next HB.out)
          replace Xt := Lib.hid (Xt.out.next HB.out)
          replace Rt := Lib.hid (Rt.out.next HB.out)
          replace K0 := Lib.hid (Bgo K0.out HB.out)
          have Vu : Hid ((w7.alloc (.cells #[.int .i64 0, .int .i64 0, .slice Au (([] : List (List Nat))).length cu] 31)).heap[w7.heap.size]? = some (.cells #[.int .i64 0, .int .i64 0, .slice Au (([] : List (List Nat))).length cu] 31)) := Lib.hid (blk_new w7 _)
          clear HB
          go_wp2_with fail
          generalize w7.alloc (.cells #[.int .i64 0, .int .i64 0, .slice Au (([] : List (List Nat))).length cu] 31) = W7 at *
          generalize w7.heap.size = gu at *
          have Ru := Lib.hid (Xu.out.rma.mono (B' := 0) (Nat.zero_le _))
          go_ret
          exact ⟨rfl, K0.out⟩
        · have hcmp' : decide ((M : Int) < (ds.length : Int)) = false := decide_eq_false (by omega)
          have RC := Lib.hid (fun (W : World) (A : Option Addr) (c : Nat) (h1 : t.length ≤ c) (h2 : c ≤ 9223372036854775807) (h : RMA 0 W A t) => restore_calls D M A c 0 t W h1 h2 h)
          have RE := RB.out t FI.out (by omega)
          rw [RE.1, RE.2] at RC
          clear RE hz hl RB RL
          have SM : Hid (∀ (W : World) (A : Option Addr) (c : Nat) (A' : Option Addr) (c' : Nat), m.length ≤ c → c ≤ 9223372036854775807 → RMA 0 W A m → m.length ≤ c' → c' ≤ 9223372036854775807 → RMA 0 W A' m → Calls Try.prog 20 #[Sv D M (.slice A m.length c), Sv D M (.slice A' m.length c')] W fun e w' => e = .returned (.bool true) ∧ Below W.heap.size W w') := Lib.hid (fun W A c A' c' h1 h2 h h1' h2' h' => by
            have := refSame_calls D M A c 0 m D M A' c' 0 m W h1 h2 h h1' h2' h'
            rw [decide_eq_true rfl] at this
            exact this)
          go_wp2_with fail
          refine (LC.out _ _ _ hs1 hs2 Rs.out HS3.out).mono ?_
          rintro e w6 ⟨v_, rfl, ⟨ut, ow_⟩, hb⟩
          obtain ⟨At, ct, rfl, ht1, ht2, _⟩ := own_form (show w6.ownsRow wr.heap.size 57 1 v_ (t).length ut from ow_.top)
          clear slVs sVs0 sVs1 sVs2
          have HB : Hid (Below wr.heap.size wr (w6.alloc (.cells #[.int .i64 (D : Int), .int .i64 (M : Int), .slice At (t).length ct] 31))) := Lib.hid (Bal hb _)
          clear hb
          have Xt : Hid (OMx wr.heap.size (w6.alloc (.cells #[.int .i64 (D : Int), .int .i64 (M : Int), .slice At (t).length ct] 31)) (.slice At (t).length ct) ut (t)) := Lib.hid (ow_.next (Bal (Below.refl _ _) _))
          clear ow_
          replace Vs := Lib.hid (blk_next HB.out Vs.out)
          replace HS := Lib.hid (HS.out.next HB.out)
          replace HS3 := Lib.hid (HS3.out.next HB.out)
          replace Xs := Lib.hid (Xs.out.next HB.out)
          replace Rs := Lib.hid (Rs.out.next HB.out)
          replace K0 := Lib.hid (Bgo K0.out HB.out)
          have Vt : Hid ((w6.alloc (.cells #[.int .i64 (D : Int), .int .i64 (M : Int), .slice At (t).length ct] 31)).heap[w6.heap.size]? = some (.cells #[.int .i64 (D : Int), .int .i64 (M : Int), .slice At (t).length ct] 31)) := Lib.hid (blk_new w6 _)
          clear HB
          go_wp2_with fail
          generalize w6.alloc (.cells #[.int .i64 (D : Int), .int .i64 (M : Int), .slice At (t).length ct] 31) = W6 at *
          generalize w6.heap.size = gt at *
          have Rt := Lib.hid (Xt.out.rma.mono (B' := 0) (Nat.zero_le _))
          refine (RC.out _ _ _ ht1 ht2 Rt.out).mono ?_
          rintro e w7 ⟨v_, rfl, ⟨uu, ow_⟩, hb⟩
          obtain ⟨Au, cu, rfl, hu1, hu2, _⟩ := own_form (show w7.ownsRow W6.heap.size 57 1 v_ (m).length uu from ow_.top)
          have HB : Hid (Below W6.heap.size W6 (w7.alloc (.cells #[.int .i64 (D : Int), .int .i64 (M : Int), .slice Au (m).length cu] 31))) := Lib.hid (Bal hb _)
          have yVs := blk_next hb Vs.out
          have slVs := blk_lt yVs
          have sVs0 := blk_cell yVs 0 _ rfl
          have sVs1 := blk_cell yVs 1 _ rfl
          have sVs2 := blk_cell yVs 2 _ rfl
          clear yVs
          clear hb
          have Xu : Hid (OMx W6.heap.size (w7.alloc (.cells #[.int .i64 (D : Int), .int .i64 (M : Int), .slice Au (m).length cu] 31)) (.slice Au (m).length cu) uu (m)) := Lib.hid (ow_.next (Bal (Below.refl _ _) _))
          clear ow_
          replace Vs := Lib.hid (blk_next HB.out Vs.out)
          replace Vt := Lib.hid (blk_next HB.out Vt.out)
          replace HS := Lib.hid (HS.out.next HB.out)
          replace HS3 := Lib.hid (HS3.out.next HB.out)
          replace Xs := Lib.hid (Xs.out.next HB.out)
          replace Rs := Lib.hid (Rs.out.next HB.out)
          replace Xt := Lib.hid (Xt.out.next HB.out)
          replace Rt := Lib.hid (Rt.out.next HB.out)
          replace K0 := Lib.hid (Bgo K0.out HB.out)
          have Vu : Hid ((w7.alloc (.cells #[.int .i64 (D : Int), .int .i64 (M : Int), .slice Au (m).length cu] 31)).heap[w7.heap.size]? = some (.cells #[.int .i64 (D : Int), .int .i64 (M : Int), .slice Au (m).length cu] 31)) := Lib.hid (blk_new w7 _)
          clear HB
          go_wp2_with fail
          clear slVs sVs0 sVs1 sVs2
          generalize w7.alloc (.cells #[.int .i64 (D : Int), .int .i64 (M : Int), .slice Au (m).length cu] 31) = W7 at *
          generalize w7.heap.size = gu at *
          have Ru := Lib.hid (Xu.out.rma.mono (B' := 0) (Nat.zero_le _))
          refine (SM.out _ _ _ _ _ hu1 hu2 Ru.out hs1 hs2 Rs.out).mono ?_
          rintro e w8 ⟨rfl, hb⟩
          replace Vs := Lib.hid (blk_next hb Vs.out)
          replace Vt := Lib.hid (blk_next hb Vt.out)
          replace Vu := Lib.hid (blk_next hb Vu.out)
          replace HS := Lib.hid (HS.out.next hb)
          replace HS3 := Lib.hid (HS3.out.next hb)
          replace Xs := Lib.hid (Xs.out.next hb)
          replace Rs := Lib.hid (Rs.out.next hb)
          replace Xt := Lib.hid (Xt.out.next hb)
          replace Rt := Lib.hid (Rt.out.next hb)
          replace Xu := Lib.hid (Xu.out.next hb)
          replace Ru := Lib.hid (Ru.out.next hb)
          replace K0 := Lib.hid (Bgo K0.out hb)
          clear hb
          go_wp2_with fail
          go_ret
          exact ⟨rfl, K0.out⟩
end Go.Proofs.Ytmpmeeacdllomaa
