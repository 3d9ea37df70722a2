/- The walk of ParityFinds. -/
import Derived.Test.YtmpmeeacdllomaaPcf
import Derived.Test.YtmpmeeacdllomaaPbh
import Derived.Deep.DeepCutAuto
namespace Go.Proofs.Ytmpmeeacdllomaa
open Go.ChangeShapes Go.WideShapes Go.ChangeAt Go.RowKit Gf
set_option linter.unusedVariables false
attribute [local go_sem ↓] Go.wp_at_zero Go.wp_at_succ

/- one byte of a row stored -/
theorem OMx.put {B : Nat} {w : World} {v : Value} {us : List Value} {m : List (List Nat)} (h : OMx B w v us m) {k g cap a x : Nat} {l : List Nat} (hl : m[k]? = some l) (hu : us[k]? = some (.slice (some ⟨g, 0, none⟩) l.length cap)) (hx : x < 256) (hB : B ≤ w.heap.size) :
    OMx B (w.setCell ⟨g, a, none⟩ (.int .u8 (x : Int))) v us (m.set k (l.set a x)) ∧ KU B w (w.setCell ⟨g, a, none⟩ (.int .u8 (x : Int))) := by
  have ho := h.row k _ l hu hl
  have st := World.ownsRow.stored ho a (.int .u8 (x : Int))
  rw [bv_set] at st
  have ku := KU.grown st.2 ho hB
  refine ⟨(h.fam.write hu st.2 st.1 (by simp) ((h.byt l (List.mem_of_getElem? hl)).set_ a hx)).omx ?_, ku⟩
  rw [List.length_set]
  exact ku.own h.top ne_sl_u8
theorem finds_cases {d : List (List Nat)} {q M k a y : Nat} (h : Wrong d q M k a y) : chkE d.length M (chg (enc d M) k a y) = 0 ∧ ((M = 0 ∧ sdB d.length M (chg (enc d M) k a y) = true ∧ fndV d.length M (chg (enc d M) k a y) = (-1, 0)) ∨ (M = 1 ∧ sdB d.length M (chg (enc d M) k a y) = false ∧ fndV d.length M (chg (enc d M) k a y) = (0, 6)) ∨ (2 ≤ M ∧ sdB d.length M (chg (enc d M) k a y) = false ∧ fndV d.length M (chg (enc d M) k a y) = ((k : Int), 0) ∧ resE d.length M (chg (enc d M) k a y) = 30)) := by
  have hc := ok_chkE h.okS
  have sd : sdB d.length M (chg (enc d M) k a y) = sndB d.length M (chg (enc d M) k a y) := by unfold sdB; rw [hc, Int.toNat_natCast, Int.toNat_natCast, decide_eq_true rfl, Bool.true_and]
  refine ⟨hc, ?_⟩
  by_cases c0 : M = 0
  · subst c0; exact .inl ⟨rfl, sd.trans h.sound0, h.find0⟩
  by_cases c1 : M = 1
  · subst c1; exact .inr (.inl ⟨rfl, sd.trans (h.sound1 (by omega)), h.find1⟩)
  · exact .inr (.inr ⟨by omega, sd.trans (h.sound1 (by omega)), h.find2 (by omega), h.res (by omega)⟩)
set_option maxRecDepth 100000 in
set_option maxHeartbeats 8000000 in
theorem finds_walk (A : Option Addr) (c : Nat) (d : List (List Nat)) (pm disk at' : Int) (y : Nat) (w : World) (hn : d.length ≤ c) (hc : c ≤ 9223372036854775807) (hs : RMA 0 w A d) (hy : y < 256) :
    Calls Try.prog 10 #[.slice A d.length c, .int .i64 pm, .int .i64 disk, .int .i64 at', .int .u8 (y : Int)] w fun e w' => e = .returned (.bool true) ∧ Below w.heap.size w w' := by
  have HS := Lib.hid hs
  have HBY := Lib.hid hs.byt
  clear hs
  have AL := Lib.hid (fun W => alive_calls W)
  have GB := Lib.hid (fun W (h : RMA 0 W A d) => refGreatBlocks_calls A c 0 d W hn hc h)
  have EC := Lib.hid (fun W (h : RMA 0 W A d) => encode_calls A c 0 d pm W hn hc h)
  have K0 : Hid (Below w.heap.size w w) := Lib.hid (Below.refl _ _)
  have g1 : greatB d = true ∨ greatB d = false := by cases greatB d <;> simp
  rcases g1 with g1 | g1
  · rw [g1] at GB
    go_enter Try.func10, Try.ntmps10
    go_wp2_with fail
    refine (AL.out _).mono ?_
    rintro e w1 ⟨rfl, hb⟩
    replace HS := Lib.hid (HS.out.next hb)
    replace K0 := Lib.hid (Bgo K0.out hb)
    clear hb
    go_wp2_with fail
    refine (GB.out _ HS.out).mono ?_
    rintro e w_ ⟨rfl, rfl⟩
    go_wp2_with fail
    go_ret
    exact ⟨rfl, K0.out⟩
  rw [g1] at GB
  by_cases he : encE d pm = 0
  rotate_left
  · rw [encS_err rfl he] at EC
    have he' : (encE d pm != 0) = true := by rw [bne_iff_ne]; exact he
    generalize encE d pm = ee at *
    clear he
    go_enter Try.func10, Try.ntmps10
    go_wp2_with fail
    refine (AL.out _).mono ?_
    rintro e w1 ⟨rfl, hb⟩
    replace HS := Lib.hid (HS.out.next hb)
    replace K0 := Lib.hid (Bgo K0.out hb)
    clear hb
    go_wp2_with fail
    refine (GB.out _ HS.out).mono ?_
    rintro e w_ ⟨rfl, rfl⟩
    go_wp2_with fail
    refine (EC.out _ HS.out).mono ?_
    rintro e w2 ⟨v_, rfl, ⟨us, ow_⟩, hb⟩
    obtain ⟨As, cs, rfl, hs1, hs2, _⟩ := own_form (show w2.ownsRow w1.heap.size 57 1 v_ (([] : List (List Nat))).length us from ow_.top)
    have HB : Hid (Below w1.heap.size w1 (w2.alloc (.cells #[.int .i64 0, .int .i64 0, .slice As (([] : List (List Nat))).length cs] 31))) := Lib.hid (Bal hb _)
    clear hb
    have Xs : Hid (OMx w1.heap.size (w2.alloc (.cells #[.int .i64 0, .int .i64 0, .slice As (([] : List (List Nat))).length cs] 31)) (.slice As (([] : List (List Nat))).length cs) us (([] : List (List Nat)))) := Lib.hid (ow_.next (Bal (Below.refl _ _) _))
    clear ow_
    replace HS := Lib.hid (HS.out.next HB.out)
    replace K0 := Lib.hid (Bgo K0.out HB.out)
    have Vs : Hid ((w2.alloc (.cells #[.int .i64 0, .int .i64 0, .slice As (([] : List (List Nat))).length cs] 31)).heap[w2.heap.size]? = some (.cells #[.int .i64 0, .int .i64 0, .slice As (([] : List (List Nat))).length cs] 31)) := Lib.hid (blk_new w2 _)
    clear HB
    go_wp2_with fail
    generalize w2.alloc (.cells #[.int .i64 0, .int .i64 0, .slice As (([] : List (List Nat))).length cs] 31) = W2 at *
    generalize w2.heap.size = gs at *
    have Rs := Lib.hid (Xs.out.rma.mono (B' := 0) (Nat.zero_le _))
    go_ret
    exact ⟨rfl, K0.out⟩
  obtain ⟨hD, hm0, hm4⟩ := encE_ok he
  obtain ⟨M, rfl⟩ := Int.eq_ofNat_of_zero_le hm0
  have hM : M ≤ 4 := by omega
  rw [encS_ok he, he, Int.toNat_natCast] at EC
  clear hm0 hm4 he
  generalize (d.getD 0 []).length = q at *
  have CC' : Hid (∀ (W : World) (A : Option Addr) (c : Nat), (enc d M).length ≤ c → c ≤ 9223372036854775807 → RMA 0 W A (enc d M) → Calls Try.prog 31 #[Sv d.length M (.slice A (enc d M).length c)] W fun e w' => e = .returned (.int .i64 0) ∧ Below W.heap.size W w') := Lib.hid (fun W A c h1 h2 h => by
    have := refCheck_calls d.length M A c 0 (enc d M) W h1 h2 h
    rw [enc_chk hD hM] at this
    exact this)
  have WC : Hid (∀ (W : World) (A : Option Addr) (c : Nat), (enc d M).length ≤ c → c ≤ 9223372036854775807 → RMA 0 W A (enc d M) → Calls Try.prog 32 #[Sv d.length M (.slice A (enc d M).length c)] W fun e w' => e = .returned (.bool true) ∧ Below W.heap.size W w') := Lib.hid (fun W A c h1 h2 h => by
    have := refWhole_calls d.length M A c 0 (enc d M) W h1 h2 (by rw [enc_len]; have := hD.d8; omega) h
    rw [lostN_rows (enc_rows hD M) hD.n1, decide_eq_true rfl] at this
    exact this)
  have FC : Hid (∀ (W : World) (A : Option Addr) (c : Nat), (enc d M).length ≤ c → c ≤ 9223372036854775807 → RMA 0 W A (enc d M) → Calls Try.prog 18 #[Sv d.length M (.slice A (enc d M).length c)] W fun e w' => e = .returned (.tuple #[.int .i64 (-1), .int .i64 0]) ∧ Below W.heap.size W w') := Lib.hid (fun W A c h1 h2 h => by
    have := find_calls d.length M A c 0 (enc d M) W h1 h2 h
    rw [enc_find hD hM] at this
    exact this)
  have TW : Hid (∀ (W : World) (A : Option Addr) (c : Nat), (enc d M).length ≤ c → c ≤ 9223372036854775807 → RMA 0 W A (enc d M) → Calls Try.prog 23 #[Sv d.length M (.slice A (enc d M).length c)] W (SPost W ((d.length : Int), (M : Int), enc d M))) := Lib.hid (fun W A c h1 h2 h => refTwin_calls d.length M A c 0 (enc d M) W h1 h2 (by rw [enc_len]; have := hD.d8; omega) h (fun l hl => by rw [enc_rows hD M l hl]; have := hD.n64; omega))
  have FS : Hid (∀ k a y, k < (enc d M).length → a < q → y ≠ 0 → y < 256 → chkE d.length M (chg (enc d M) k a y) = 0 ∧ ((M = 0 ∧ sdB d.length M (chg (enc d M) k a y) = true ∧ fndV d.length M (chg (enc d M) k a y) = (-1, 0)) ∨ (M = 1 ∧ sdB d.length M (chg (enc d M) k a y) = false ∧ fndV d.length M (chg (enc d M) k a y) = (0, 6)) ∨ (2 ≤ M ∧ sdB d.length M (chg (enc d M) k a y) = false ∧ fndV d.length M (chg (enc d M) k a y) = ((k : Int), 0) ∧ resE d.length M (chg (enc d M) k a y) = 30))) := Lib.hid (fun k a y h1 h2 h3 h4 => finds_cases ⟨hD, HBY.out, hM, by rw [enc_len] at h1; exact h1, h2, h3, h4⟩)
  have EL : Hid (∀ (i : Nat) (l : List Nat), (enc d M)[i]? = some l → l.length = q ∧ Byt l) := Lib.hid (fun i l h => ⟨enc_rows hD M l (List.mem_of_getElem? h), enc_byt hD HBY.out hM l (List.mem_of_getElem? h)⟩)
  have hq1 := hD.n1
  have hq2 := hD.n64
  have L100 : (enc d M).length ≤ 100 := by rw [enc_len]; have := hD.d8; omega
  clear hD HBY
  generalize enc d M = m at *
  generalize d.length = D at *
  go_enter Try.func10, Try.ntmps10
  go_wp2_with fail
  refine (AL.out _).mono ?_
  rintro e w1 ⟨rfl, hb⟩
  replace HS := Lib.hid (HS.out.next hb)
  replace K0 := Lib.hid (Bgo K0.out hb)
  clear hb
  go_wp2_with fail
  refine (GB.out _ HS.out).mono ?_
  rintro e w_ ⟨rfl, rfl⟩
  go_wp2_with fail
  refine (EC.out _ HS.out).mono ?_
  rintro e w2 ⟨v_, rfl, ⟨us, ow_⟩, hb⟩
  obtain ⟨As, cs, rfl, hs1, hs2, _⟩ := own_form (show w2.ownsRow w1.heap.size 57 1 v_ (m).length us from ow_.top)
  have HB : Hid (Below w1.heap.size w1 (w2.alloc (.cells #[.int .i64 (D : Int), .int .i64 (M : Int), .slice As (m).length cs] 31))) := Lib.hid (Bal hb _)
  clear hb
  have Xs : Hid (OMx w1.heap.size (w2.alloc (.cells #[.int .i64 (D : Int), .int .i64 (M : Int), .slice As (m).length cs] 31)) (.slice As (m).length cs) us (m)) := Lib.hid (ow_.next (Bal (Below.refl _ _) _))
  clear ow_
  replace HS := Lib.hid (HS.out.next HB.out)
  replace K0 := Lib.hid (Bgo K0.out HB.out)
  have Vs : Hid ((w2.alloc (.cells #[.int .i64 (D : Int), .int .i64 (M : Int), .slice As (m).length cs] 31)).heap[w2.heap.size]? = some (.cells #[.int .i64 (D : Int), .int .i64 (M : Int), .slice As (m).length cs] 31)) := Lib.hid (blk_new w2 _)
  clear HB
  go_wp2_with fail
  generalize w2.alloc (.cells #[.int .i64 (D : Int), .int .i64 (M : Int), .slice As (m).length cs] 31) = W2 at *
  generalize w2.heap.size = gs at *
  have Rs := Lib.hid (Xs.out.rma.mono (B' := 0) (Nat.zero_le _))
  refine (CC'.out _ _ _ hs1 hs2 Rs.out).mono ?_
  rintro e w3 ⟨rfl, hb⟩
  replace Vs := Lib.hid (blk_next hb Vs.out)
  replace HS := Lib.hid (HS.out.next hb)
  replace Xs := Lib.hid (Xs.out.next hb)
  replace Rs := Lib.hid (Rs.out.next hb)
  replace K0 := Lib.hid (Bgo K0.out hb)
  clear hb
  have slVs := blk_lt Vs.out
  have sVs0 := blk_cell Vs.out 0 _ rfl
  have sVs1 := blk_cell Vs.out 1 _ rfl
  have sVs2 := blk_cell Vs.out 2 _ rfl
  go_wp2_with fail
  refine (WC.out _ _ _ hs1 hs2 Rs.out).mono ?_
  rintro e w4 ⟨rfl, hb⟩
  clear slVs sVs0 sVs1 sVs2
  replace Vs := Lib.hid (blk_next hb Vs.out)
  replace HS := Lib.hid (HS.out.next hb)
  replace Xs := Lib.hid (Xs.out.next hb)
  replace Rs := Lib.hid (Rs.out.next hb)
  replace K0 := Lib.hid (Bgo K0.out hb)
  clear hb
  have slVs := blk_lt Vs.out
  have sVs0 := blk_cell Vs.out 0 _ rfl
  have sVs1 := blk_cell Vs.out 1 _ rfl
  have sVs2 := blk_cell Vs.out 2 _ rfl
  go_wp2_with fail
  refine (FC.out _ _ _ hs1 hs2 Rs.out).mono ?_
  rintro e w5 ⟨rfl, hb⟩
  clear slVs sVs0 sVs1 sVs2
  replace Vs := Lib.hid (blk_next hb Vs.out)
  replace HS := Lib.hid (HS.out.next hb)
  replace Xs := Lib.hid (Xs.out.next hb)
  replace Rs := Lib.hid (Rs.out.next hb)
  replace K0 := Lib.hid (Bgo K0.out hb)
  clear hb
  have slVs := blk_lt Vs.out
  have sVs0 := blk_cell Vs.out 0 _ rfl
  have sVs1 := blk_cell Vs.out 1 _ rfl
  have sVs2 := blk_cell Vs.out 2 _ rfl
  by_cases c1 : disk < 0
  · go_wp2_with fail
    go_ret
    exact ⟨rfl, K0.out⟩
  by_cases c2 : (m.length : Int) ≤ disk
  · go_wp2_with fail
    go_ret
    exact ⟨rfl, K0.out⟩
  obtain ⟨k, rfl⟩ := Int.eq_ofNat_of_zero_le (show 0 ≤ disk by omega)
  have hk : k < m.length := by omega
  have hk0 : (0 : Int) ≤ (k : Int) := by omega
  have hk1 : (k : Int) < (m.length : Int) := by omega
  clear c1 c2
  by_cases c3 : at' < 0
  · go_wp2_with fail
    go_ret
    exact ⟨rfl, K0.out⟩
  obtain ⟨a, rfl⟩ := Int.eq_ofNat_of_zero_le (show 0 ≤ at' by omega)
  clear c3
  have ha0 : (0 : Int) ≤ (a : Int) := by omega
  obtain ⟨l, hl⟩ := get_some hk
  obtain ⟨hlq, hlb⟩ := EL.out k l hl
  obtain ⟨b1, o1, A1, cp1, eA, hb1, h11, h12, h13, _⟩ := Rs.out.at_ hl
  subst eA
  rw [hlq] at h11 h12
  have HL := Lib.hid hl
  have HLQ := Lib.hid hlq
  have HLB := Lib.hid hlb
  clear hl hlq hlb
  by_cases c4 : q ≤ a
  · go_wp2_with fail
    go_ret
    exact ⟨rfl, K0.out⟩
  have ha : a < q := by omega
  have ha1 : (a : Int) < (q : Int) := by omega
  by_cases c5 : y = 0
  · subst c5
    go_wp2_with fail
    go_ret
    exact ⟨rfl, K0.out⟩
  have c5' : ((y : Int) == 0) = false := by rw [beq_eq_false_iff_ne]; omega
  go_wp2_with fail
  clear h11 hb1 h12 h13
  have hw0 : w.heap.size ≤ w5.heap.size := K0.out.size
  refine (TW.out _ _ _ hs1 hs2 Rs.out).mono ?_
  rintro e w6 ⟨v_, rfl, ⟨ut, ow_⟩, hb⟩
  obtain ⟨At, ct, rfl, ht1, ht2, _⟩ := own_form (show w6.ownsRow w5.heap.size 57 1 v_ (m).length ut from ow_.top)
  clear slVs sVs0 sVs1 sVs2
  have HB : Hid (Below w5.heap.size w5 (w6.alloc (.cells #[.int .i64 (D : Int), .int .i64 (M : Int), .slice At (m).length ct] 31))) := Lib.hid (Bal hb _)
  clear hb
  have Xt : Hid (OMx w5.heap.size (w6.alloc (.cells #[.int .i64 (D : Int), .int .i64 (M : Int), .slice At (m).length ct] 31)) (.slice At (m).length ct) ut (m)) := Lib.hid (ow_.next (Bal (Below.refl _ _) _))
  clear ow_
  replace Vs := Lib.hid (blk_next HB.out Vs.out)
  replace HS := Lib.hid (HS.out.next HB.out)
  replace Xs := Lib.hid (Xs.out.next HB.out)
  replace Rs := Lib.hid (Rs.out.next HB.out)
  replace K0 := Lib.hid (Bgo K0.out HB.out)
  have Vt : Hid ((w6.alloc (.cells #[.int .i64 (D : Int), .int .i64 (M : Int), .slice At (m).length ct] 31)).heap[w6.heap.size]? = some (.cells #[.int .i64 (D : Int), .int .i64 (M : Int), .slice At (m).length ct] 31)) := Lib.hid (blk_new w6 _)
  clear HB
  go_upto_region 13 with fail
  generalize w6.alloc (.cells #[.int .i64 (D : Int), .int .i64 (M : Int), .slice At (m).length ct] 31) = W6 at *
  generalize w6.heap.size = gt at *
  have Rt := Lib.hid (Xt.out.rma.mono (B' := 0) (Nat.zero_le _))
  obtain ⟨g, cp, hu, hB, hgl, hcp1, hcp2, hown, _⟩ := Xt.out.fam.form HL.out (by rw [HLQ.out]; omega)
  obtain ⟨b2, o2, eA2, _, hb2, h21⟩ := Hd.of_own Xt.out.top k _ hu
  subst eA2
  obtain ⟨x, hx⟩ := get_some (show a < l.length by rw [HLQ.out]; exact ha)
  have hx1 := HLB.out.at_ hx
  have cx : W6.cell? ⟨g, a, none⟩ = some (.int .u8 (x : Int)) := by rw [hown.cellAt a (by rw [HLQ.out]; omega)]; exact bv_get hx
  have cf : W6.frozen? ⟨g, a, none⟩ = false := hown.frozenAt a
  have X2 : Hid (bits BinOp.xor IntKind.u8 (x : Int) (y : Int) = ((x ^^^ y : Nat) : Int)) := Lib.hid (u8_xor_nat x y hx1 hy)
  have PT := Lib.hid (Xt.out.put (a := a) (x := x ^^^ y) HL.out hu (xor_lt hx1 hy) (by have := hB; have := hgl; omega))
  have EX : Hid (m.set k (l.set a (x ^^^ y)) = chg m k a y) := Lib.hid (by unfold chg chgL; rw [getD_of HL.out, List.getD_eq_getElem?_getD, hx]; rfl)
  have HU := Lib.hid hu
  have HX := Lib.hid hx
  rw [HLQ.out] at h21 hcp1
  clear hu hx hown
  have slVt := blk_lt Vt.out
  have sVt2 := blk_cell Vt.out 2 _ rfl
  go_upto_region 14 with fail
  clear slVt sVt2
  rw [X2.out]
  have K7 := Lib.hid (Below.trans K0.out (PT.out.2.bel.mono hw0))
  have Z7 := Lib.hid (PT.out.2.oth _ _ _ _ Vt.out ne_st_u8)
  have X7 := Lib.hid (PT.out.1.ext EX.out)
  have R7 := Lib.hid (X7.out.rma.mono (B' := 0) (Nat.zero_le _))
  clear PT EX HU HX X2 cx cf Vt Xt Rt Rs Xs Vs HS K0 HL HLQ HLB h21 X7 hw0
  generalize W6.setCell ⟨g, a, none⟩ (.int .u8 ((x ^^^ y : Nat) : Int)) = W7 at *
  obtain ⟨hchk, hcase⟩ := FS.out k a y hk ha c5 hy
  have CT : Hid ((chg m k a y).length = m.length) := Lib.hid (chg_len m k a y)
  have LT : (chg m k a y).length ≤ ct := by rw [CT.out]; exact ht1
  rcases hcase with ⟨hM0, hsd, hfd⟩ | ⟨hM1, hsd, hfd⟩ | ⟨hM2, hsd, hfd, hre⟩
  · have e0 : ((M : Int) == 0) = true := by rw [hM0]; rfl
    skip
    have SD : Hid (∀ (W : World), RMA 0 W (some ⟨b2, o2, none⟩) (chg m k a y) → Calls Try.prog 28 #[Sv D M (.slice (some ⟨b2, o2, none⟩) m.length ct)] W (fun e w' => e = .returned (.tuple #[.bool true, .int .i64 0]) ∧ Below W.heap.size W w')) := Lib.hid (fun W h => by
      have := soundX_calls D M (some ⟨b2, o2, none⟩) ct 0 (chg m k a y) W LT ht2 h
      rw [hsd, hchk, CT.out] at this
      exact this)
    have FD : Hid (∀ (W : World), RMA 0 W (some ⟨b2, o2, none⟩) (chg m k a y) → Calls Try.prog 18 #[Sv D M (.slice (some ⟨b2, o2, none⟩) m.length ct)] W (fun e w' => e = .returned (.tuple #[.int .i64 (-1), .int .i64 0]) ∧ Below W.heap.size W w')) := Lib.hid (fun W h => by
      have := find_calls D M (some ⟨b2, o2, none⟩) ct 0 (chg m k a y) W LT ht2 h
      rw [hfd, CT.out] at this
      exact this)
    clear hchk hsd hfd FS CT LT hM0
    have slZ7 := blk_lt Z7.out
    have sZ70 := blk_cell Z7.out 0 _ rfl
    have sZ71 := blk_cell Z7.out 1 _ rfl
    have sZ72 := blk_cell Z7.out 2 _ rfl
    go_wp2_with fail
    refine (SD.out _ R7.out).mono ?_
    rintro e w7 ⟨rfl, hb⟩
    clear slZ7 sZ70 sZ71 sZ72
    replace Z7 := Lib.hid (blk_next hb Z7.out)
    replace R7 := Lib.hid (R7.out.next hb)
    replace K7 := Lib.hid (Bgo K7.out hb)
    clear hb
    have slZ7 := blk_lt Z7.out
    have sZ70 := blk_cell Z7.out 0 _ rfl
    have sZ71 := blk_cell Z7.out 1 _ rfl
    have sZ72 := blk_cell Z7.out 2 _ rfl
    go_wp2_with fail
    refine (FD.out _ R7.out).mono ?_
    rintro e w8 ⟨rfl, hb⟩
    clear slZ7 sZ70 sZ71 sZ72
    replace Z7 := Lib.hid (blk_next hb Z7.out)
    replace R7 := Lib.hid (R7.out.next hb)
    replace K7 := Lib.hid (Bgo K7.out hb)
    clear hb
    have slZ7 := blk_lt Z7.out
    have sZ70 := blk_cell Z7.out 0 _ rfl
    have sZ71 := blk_cell Z7.out 1 _ rfl
    have sZ72 := blk_cell Z7.out 2 _ rfl
    go_wp2_with fail
    go_ret
    exact ⟨rfl, K7.out⟩
  · have e0 : ((M : Int) == 0) = false := by rw [hM1]; rfl
    have e1 : ((M : Int) == 1) = true := by rw [hM1]; rfl
    have SD : Hid (∀ (W : World), RMA 0 W (some ⟨b2, o2, none⟩) (chg m k a y) → Calls Try.prog 28 #[Sv D M (.slice (some ⟨b2, o2, none⟩) m.length ct)] W (fun e w' => e = .returned (.tuple #[.bool false, .int .i64 0]) ∧ Below W.heap.size W w')) := Lib.hid (fun W h => by
      have := soundX_calls D M (some ⟨b2, o2, none⟩) ct 0 (chg m k a y) W LT ht2 h
      rw [hsd, hchk, CT.out] at this
      exact this)
    have FD : Hid (∀ (W : World), RMA 0 W (some ⟨b2, o2, none⟩) (chg m k a y) → Calls Try.prog 18 #[Sv D M (.slice (some ⟨b2, o2, none⟩) m.length ct)] W (fun e w' => e = .returned (.tuple #[.int .i64 0, .int .i64 6]) ∧ Below W.heap.size W w')) := Lib.hid (fun W h => by
      have := find_calls D M (some ⟨b2, o2, none⟩) ct 0 (chg m k a y) W LT ht2 h
      rw [hfd, CT.out] at this
      exact this)
    clear hchk hsd hfd FS CT LT hM1
    have slZ7 := blk_lt Z7.out
    have sZ70 := blk_cell Z7.out 0 _ rfl
    have sZ71 := blk_cell Z7.out 1 _ rfl
    have sZ72 := blk_cell Z7.out 2 _ rfl
    go_wp2_with fail
    refine (SD.out _ R7.out).mono ?_
    rintro e w7 ⟨rfl, hb⟩
    clear slZ7 sZ70 sZ71 sZ72
    replace Z7 := Lib.hid (blk_next hb Z7.out)
    replace R7 := Lib.hid (R7.out.next hb)
    replace K7 := Lib.hid (Bgo K7.out hb)
    clear hb
    have slZ7 := blk_lt Z7.out
    have sZ70 := blk_cell Z7.out 0 _ rfl
    have sZ71 := blk_cell Z7.out 1 _ rfl
    have sZ72 := blk_cell Z7.out 2 _ rfl
    go_wp2_with fail
    refine (FD.out _ R7.out).mono ?_
    rintro e w8 ⟨rfl, hb⟩
    clear slZ7 sZ70 sZ71 sZ72
    replace Z7 := Lib.hid (blk_next hb Z7.out)
    replace R7 := Lib.hid (R7.out.next hb)
    replace K7 := Lib.hid (Bgo K7.out hb)
    clear hb
    have slZ7 := blk_lt Z7.out
    have sZ70 := blk_cell Z7.out 0 _ rfl
    have sZ71 := blk_cell Z7.out 1 _ rfl
    have sZ72 := blk_cell Z7.out 2 _ rfl
    go_wp2_with fail
    go_ret
    exact ⟨rfl, K7.out⟩
  · have e0 : ((M : Int) == 0) = false := by rw [beq_eq_false_iff_ne]; omega
    have e1 : ((M : Int) == 1) = false := by rw [beq_eq_false_iff_ne]; omega
    have SD : Hid (∀ (W : World), RMA 0 W (some ⟨b2, o2, none⟩) (chg m k a y) → Calls Try.prog 28 #[Sv D M (.slice (some ⟨b2, o2, none⟩) m.length ct)] W (fun e w' => e = .returned (.tuple #[.bool false, .int .i64 0]) ∧ Below W.heap.size W w')) := Lib.hid (fun W h => by
      have := soundX_calls D M (some ⟨b2, o2, none⟩) ct 0 (chg m k a y) W LT ht2 h
      rw [hsd, hchk, CT.out] at this
      exact this)
    have FD : Hid (∀ (W : World), RMA 0 W (some ⟨b2, o2, none⟩) (chg m k a y) → Calls Try.prog 18 #[Sv D M (.slice (some ⟨b2, o2, none⟩) m.length ct)] W (fun e w' => e = .returned (.tuple #[.int .i64 (k : Int), .int .i64 0]) ∧ Below W.heap.size W w')) := Lib.hid (fun W h => by
      have := find_calls D M (some ⟨b2, o2, none⟩) ct 0 (chg m k a y) W LT ht2 h
      rw [hfd, CT.out] at this
      exact this)
    have RD : Hid (∀ (W : World), RMA 0 W (some ⟨b2, o2, none⟩) (chg m k a y) → Calls Try.prog 16 #[Sv D M (.slice (some ⟨b2, o2, none⟩) m.length ct)] W (SEPost W (0, 0, []) 30)) := Lib.hid (fun W h => by
      have := restore_calls D M (some ⟨b2, o2, none⟩) ct 0 (chg m k a y) W LT ht2 h
      rw [resS_err hre (by decide), hre, CT.out] at this
      exact this)
    clear hchk hsd hfd FS CT LT hre
    have slZ7 := blk_lt Z7.out
    have sZ70 := blk_cell Z7.out 0 _ rfl
    have sZ71 := blk_cell Z7.out 1 _ rfl
    have sZ72 := blk_cell Z7.out 2 _ rfl
    go_wp2_with fail
    refine (SD.out _ R7.out).mono ?_
    rintro e w7 ⟨rfl, hb⟩
    clear slZ7 sZ70 sZ71 sZ72
    replace Z7 := Lib.hid (blk_next hb Z7.out)
    replace R7 := Lib.hid (R7.out.next hb)
    replace K7 := Lib.hid (Bgo K7.out hb)
    clear hb
    have slZ7 := blk_lt Z7.out
    have sZ70 := blk_cell Z7.out 0 _ rfl
    have sZ71 := blk_cell Z7.out 1 _ rfl
    have sZ72 := blk_cell Z7.out 2 _ rfl
    go_wp2_with fail
    refine (FD.out _ R7.out).mono ?_
    rintro e w8 ⟨rfl, hb⟩
    clear slZ7 sZ70 sZ71 sZ72
    replace Z7 := Lib.hid (blk_next hb Z7.out)
    replace R7 := Lib.hid (R7.out.next hb)
    replace K7 := Lib.hid (Bgo K7.out hb)
    clear hb
    have slZ7 := blk_lt Z7.out
    have sZ70 := blk_cell Z7.out 0 _ rfl
    have sZ71 := blk_cell Z7.out 1 _ rfl
    have sZ72 := blk_cell Z7.out 2 _ rfl
    go_wp2_with fail
    refine (RD.out _ R7.out).mono ?_
    rintro e w9 ⟨v_, rfl, ⟨uu, ow_⟩, hb⟩
    obtain ⟨Au, cu, rfl, hu1, hu2, _⟩ := own_form (show w9.ownsRow w8.heap.size 57 1 v_ (([] : List (List Nat))).length uu from ow_.top)
    clear slZ7 sZ70 sZ71 sZ72
    have HB : Hid (Below w8.heap.size w8 (w9.alloc (.cells #[.int .i64 0, .int .i64 0, .slice Au (([] : List (List Nat))).length cu] 31))) := Lib.hid (Bal hb _)
    clear hb
    have Xu : Hid (OMx w8.heap.size (w9.alloc (.cells #[.int .i64 0, .int .i64 0, .slice Au (([] : List (List Nat))).length cu] 31)) (.slice Au (([] : List (List Nat))).length cu) uu (([] : List (List Nat)))) := Lib.hid (ow_.next (Bal (Below.refl _ _) _))
    clear ow_
    replace Z7 := Lib.hid (blk_next HB.out Z7.out)
    replace R7 := Lib.hid (R7.out.next HB.out)
    replace K7 := Lib.hid (Bgo K7.out HB.out)
    have Vu : Hid ((w9.alloc (.cells #[.int .i64 0, .int .i64 0, .slice Au (([] : List (List Nat))).length cu] 31)).heap[w9.heap.size]? = some (.cells #[.int .i64 0, .int .i64 0, .slice Au (([] : List (List Nat))).length cu] 31)) := Lib.hid (blk_new w9 _)
    clear HB
    go_wp2_with fail
    generalize w9.alloc (.cells #[.int .i64 0, .int .i64 0, .slice Au (([] : List (List Nat))).length cu] 31) = W9 at *
    generalize w9.heap.size = gu at *
    have Ru := Lib.hid (Xu.out.rma.mono (B' := 0) (Nat.zero_le _))
    go_ret
    exact ⟨rfl, K7.out⟩
theorem finds_law (A : Option Addr) (c : Nat) (d : List (List Nat)) (pm disk at' y : Int) (wy : (Lit.int .u8 y).wf = true) (w : World) (hn : d.length ≤ c) (hc : c ≤ 9223372036854775807) (hs : RMA 0 w A d) :
    Calls Try.prog 10 #[.slice A d.length c, .int .i64 pm, .int .i64 disk, .int .i64 at', .int .u8 y] w fun e w' => e = .returned (.bool true) ∧ Below w.heap.size w w' := by
  have b0 := bounds_u8 wy
  obtain ⟨z, rfl⟩ := Int.eq_ofNat_of_zero_le b0.1
  exact finds_walk A c d pm disk at' z w hn hc hs (by omega)
end Go.Proofs.Ytmpmeeacdllomaa
