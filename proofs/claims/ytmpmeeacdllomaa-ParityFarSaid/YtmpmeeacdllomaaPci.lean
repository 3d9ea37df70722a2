/- The walk of ParityFar. -/
import Derived.Test.YtmpmeeacdllomaaPch
import Derived.Test.YtmpmeeacdllomaaPcg
import Derived.StillTailTactics
import Derived.Deep.DeepCutAuto
namespace Go.Proofs.Ytmpmeeacdllomaa
open Go.ChangeShapes Go.WideShapes Go.ChangeAt Go.RowKit Gf
set_option linter.unusedVariables false
attribute [local go_sem ↓] Go.wp_at_zero Go.wp_at_succ

theorem KU.drewN {B : Nat} {a b : World} (h : KU B a b) (n : Nat) : KU B a (b.drewN n) := ⟨below_drewN h.bel n, h.oth⟩
theorem sum_sd {d d' : List (List Nat)} {q M : Nat} (h : OkD d q) (h' : OkD d' q) (hl : d.length = d'.length) (hM : M ≤ 4) : sdB d.length M (sumK (enc d M) (enc d' M) (enc d M).length) = true ∧ chkE d.length M (sumK (enc d M) (enc d' M) (enc d M).length) = 0 := by
  rw [sum_enc h h' hl]
  have s := sum_ok h h' hl
  have e : ((sumK d d' d.length).length : Int) = (d.length : Int) := by rw [sumK_len]
  have a := enc_sd s hM
  have b := enc_chk s hM
  rw [e] at a b
  exact ⟨a, b⟩
set_option maxRecDepth 100000 in
set_option maxHeartbeats 16000000 in
theorem far_walk (A : Option Addr) (c : Nat) (d : List (List Nat)) (A' : Option Addr) (c' : Nat) (d' : List (List Nat)) (pm : Int) (w : World) (hn : d.length ≤ c) (hc : c ≤ 9223372036854775807) (hs : RMA 0 w A d) (hn' : d'.length ≤ c') (hc' : c' ≤ 9223372036854775807) (hs' : RMA 0 w A' d') :
    Calls Try.prog 8 #[.slice A d.length c, .slice A' d'.length c', .int .i64 pm] w fun e w' => e = .returned (.bool true) ∧ Below w.heap.size w w' := by
  have HS := Lib.hid hs
  have HS' := Lib.hid hs'
  have HBY := Lib.hid (And.intro hs.byt hs'.byt)
  clear hs hs'
  have AL := Lib.hid (fun W => alive_calls W)
  have GB := Lib.hid (fun W (h : RMA 0 W A d) => refGreatBlocks_calls A c 0 d W hn hc h)
  have GB' := Lib.hid (fun W (h : RMA 0 W A' d') => refGreatBlocks_calls A' c' 0 d' W hn' hc' h)
  have EC := Lib.hid (fun W (h : RMA 0 W A d) => encode_calls A c 0 d pm W hn hc h)
  have EC' := Lib.hid (fun W (h : RMA 0 W A' d') => encode_calls A' c' 0 d' pm W hn' hc' h)
  have K0 : Hid (Below w.heap.size w w) := Lib.hid (Below.refl _ _)
  have g1 : greatB d = true ∨ greatB d = false := by cases greatB d <;> simp
  rcases g1 with g1 | g1
  · rw [g1] at GB
    go_enter Try.func8, Try.ntmps8
    go_wp2_with fail
    refine (AL.out _).mono ?_
    rintro e w1 ⟨rfl, hb⟩
    replace HS := Lib.hid (HS.out.next hb)
    replace HS' := Lib.hid (HS'.out.next hb)
    replace K0 := Lib.hid (Bgo K0.out hb)
    clear hb
    go_wp2_with fail
    refine (GB.out _ HS.out).mono ?_
    rintro e w_ ⟨rfl, rfl⟩
    go_wp2_with fail
    go_ret
    exact ⟨rfl, K0.out⟩
  rw [g1] at GB
  have g2 : greatB d' = true ∨ greatB d' = false := by cases greatB d' <;> simp
  rcases g2 with g2 | g2
  · rw [g2] at GB'
    go_enter Try.func8, Try.ntmps8
    go_wp2_with fail
    refine (AL.out _).mono ?_
    rintro e w1 ⟨rfl, hb⟩
    replace HS := Lib.hid (HS.out.next hb)
    replace HS' := Lib.hid (HS'.out.next hb)
    replace K0 := Lib.hid (Bgo K0.out hb)
    clear hb
    go_wp2_with fail
    refine (GB.out _ HS.out).mono ?_
    rintro e w_ ⟨rfl, rfl⟩
    go_wp2_with fail
    refine (GB'.out _ HS'.out).mono ?_
    rintro e w_ ⟨rfl, rfl⟩
    go_wp2_with fail
    go_ret
    exact ⟨rfl, K0.out⟩
  rw [g2] at GB'
  clear g1 g2
  by_cases c0 : d.length = 0
  · have c0' : ((d.length : Int) == 0) = true := by rw [c0]; rfl
    clear c0
    go_enter Try.func8, Try.ntmps8
    go_wp2_with fail
    refine (AL.out _).mono ?_
    rintro e w1 ⟨rfl, hb⟩
    replace HS := Lib.hid (HS.out.next hb)
    replace HS' := Lib.hid (HS'.out.next hb)
    replace K0 := Lib.hid (Bgo K0.out hb)
    clear hb
    go_wp2_with fail
    refine (GB.out _ HS.out).mono ?_
    rintro e w_ ⟨rfl, rfl⟩
    go_wp2_with fail
    refine (GB'.out _ HS'.out).mono ?_
    rintro e w_ ⟨rfl, rfl⟩
    go_wp2_with fail
    go_ret
    exact ⟨rfl, K0.out⟩
  have c0' : ((d.length : Int) == 0) = false := by rw [beq_eq_false_iff_ne]; omega
  by_cases c1 : d.length = d'.length
  rotate_left
  · have c1' : ((d.length : Int) != (d'.length : Int)) = true := by rw [bne_iff_ne]; omega
    go_enter Try.func8, Try.ntmps8
    go_wp2_with fail
    refine (AL.out _).mono ?_
    rintro e w1 ⟨rfl, hb⟩
    replace HS := Lib.hid (HS.out.next hb)
    replace HS' := Lib.hid (HS'.out.next hb)
    replace K0 := Lib.hid (Bgo K0.out hb)
    clear hb
    go_wp2_with fail
    refine (GB.out _ HS.out).mono ?_
    rintro e w_ ⟨rfl, rfl⟩
    go_wp2_with fail
    refine (GB'.out _ HS'.out).mono ?_
    rintro e w_ ⟨rfl, rfl⟩
    go_wp2_with fail
    go_ret
    exact ⟨rfl, K0.out⟩
  have c1' : ((d.length : Int) != (d'.length : Int)) = false := by rw [c1]; simp
  by_cases he : encE d pm = 0
  rotate_left
  · rw [encS_err rfl he] at EC
    have he' : (encE d pm != 0) = true := by rw [bne_iff_ne]; exact he
    generalize encE d pm = ee at *
    generalize encE d' pm = ee' at *
    generalize encS d' pm = es at *
    obtain ⟨e1, e2, e3⟩ := es
    clear he c1
    go_enter Try.func8, Try.ntmps8
    go_wp2_with fail
    refine (AL.out _).mono ?_
    rintro e w1 ⟨rfl, hb⟩
    replace HS := Lib.hid (HS.out.next hb)
    replace HS' := Lib.hid (HS'.out.next hb)
    replace K0 := Lib.hid (Bgo K0.out hb)
    clear hb
    go_wp2_with fail
    refine (GB.out _ HS.out).mono ?_
    rintro e w_ ⟨rfl, rfl⟩
    go_wp2_with fail
    refine (GB'.out _ HS'.out).mono ?_
    rintro e w_ ⟨rfl, rfl⟩
    go_wp2_with fail
    refine (EC.out _ HS.out).mono ?_
    rintro e w2 ⟨v_, rfl, ⟨us, ow_⟩, hb⟩
    obtain ⟨As, cs, rfl, hs1, hs2, _⟩ := own_form (show w2.ownsRow w1.heap.size 57 1 v_ (([] : List (List Nat))).length us from ow_.top)
    have HB : Hid (Below w1.heap.size w1 (w2.alloc (.cells #[.int .i64 0, .int .i64 0, .slice As (([] : List (List Nat))).length cs] 31))) := Lib.hid (Bal hb _)
    clear hb
    have Xs : Hid (OMx w1.heap.size (w2.alloc (.cells #[.int .i64 0, .int .i64 0, .slice As (([] : List (List Nat))).length cs] 31)) (.slice As (([] : List (List Nat))).length cs) us (([] : List (List Nat)))) := Lib.hid (ow_.next (Bal (Below.refl _ _) _))
    clear ow_
    replace HS := Lib.hid (HS.out.next HB.out)
    replace HS' := Lib.hid (HS'.out.next HB.out)
    replace K0 := Lib.hid (Bgo K0.out HB.out)
    have Vs : Hid ((w2.alloc (.cells #[.int .i64 0, .int .i64 0, .slice As (([] : List (List Nat))).length cs] 31)).heap[w2.heap.size]? = some (.cells #[.int .i64 0, .int .i64 0, .slice As (([] : List (List Nat))).length cs] 31)) := Lib.hid (blk_new w2 _)
    clear HB
    go_wp2_with fail
    generalize w2.alloc (.cells #[.int .i64 0, .int .i64 0, .slice As (([] : List (List Nat))).length cs] 31) = W2 at *
    generalize w2.heap.size = gs at *
    have Rs := Lib.hid (Xs.out.rma.mono (B' := 0) (Nat.zero_le _))
    refine (EC'.out _ HS'.out).mono ?_
    rintro e w3 ⟨v_, rfl, ⟨ut, ow_⟩, hb⟩
    obtain ⟨At, ct, rfl, ht1, ht2, _⟩ := own_form (show w3.ownsRow W2.heap.size 57 1 v_ (e3).length ut from ow_.top)
    have HB : Hid (Below W2.heap.size W2 (w3.alloc (.cells #[.int .i64 e1, .int .i64 e2, .slice At (e3).length ct] 31))) := Lib.hid (Bal hb _)
    clear hb
    have Xt : Hid (OMx W2.heap.size (w3.alloc (.cells #[.int .i64 e1, .int .i64 e2, .slice At (e3).length ct] 31)) (.slice At (e3).length ct) ut (e3)) := Lib.hid (ow_.next (Bal (Below.refl _ _) _))
    clear ow_
    replace Vs := Lib.hid (blk_next HB.out Vs.out)
    replace HS := Lib.hid (HS.out.next HB.out)
    replace HS' := Lib.hid (HS'.out.next HB.out)
    replace Xs := Lib.hid (Xs.out.next HB.out)
    replace Rs := Lib.hid (Rs.out.next HB.out)
    replace K0 := Lib.hid (Bgo K0.out HB.out)
    have Vt : Hid ((w3.alloc (.cells #[.int .i64 e1, .int .i64 e2, .slice At (e3).length ct] 31)).heap[w3.heap.size]? = some (.cells #[.int .i64 e1, .int .i64 e2, .slice At (e3).length ct] 31)) := Lib.hid (blk_new w3 _)
    clear HB
    go_wp2_with fail
    generalize w3.alloc (.cells #[.int .i64 e1, .int .i64 e2, .slice At (e3).length ct] 31) = W3 at *
    generalize w3.heap.size = gt at *
    have Rt := Lib.hid (Xt.out.rma.mono (B' := 0) (Nat.zero_le _))
    go_ret
    exact ⟨rfl, K0.out⟩
  by_cases hf : encE d' pm = 0
  rotate_left
  · rw [encS_err rfl hf] at EC'
    have he' : (encE d' pm != 0) = true := by rw [bne_iff_ne]; exact hf
    rw [he] at EC
    generalize encE d' pm = ee at *
    generalize encS d pm = es at *
    obtain ⟨e1, e2, e3⟩ := es
    clear he hf c1
    go_enter Try.func8, Try.ntmps8
    go_wp2_with fail
    refine (AL.out _).mono ?_
    rintro e w1 ⟨rfl, hb⟩
    replace HS := Lib.hid (HS.out.next hb)
    replace HS' := Lib.hid (HS'.out.next hb)
    replace K0 := Lib.hid (Bgo K0.out hb)
    clear hb
    go_wp2_with fail
    refine (GB.out _ HS.out).mono ?_
    rintro e w_ ⟨rfl, rfl⟩
    go_wp2_with fail
    refine (GB'.out _ HS'.out).mono ?_
    rintro e w_ ⟨rfl, rfl⟩
    go_wp2_with fail
    refine (EC.out _ HS.out).mono ?_
    rintro e w2 ⟨v_, rfl, ⟨us, ow_⟩, hb⟩
    obtain ⟨As, cs, rfl, hs1, hs2, _⟩ := own_form (show w2.ownsRow w1.heap.size 57 1 v_ (e3).length us from ow_.top)
    have HB : Hid (Below w1.heap.size w1 (w2.alloc (.cells #[.int .i64 e1, .int .i64 e2, .slice As (e3).length cs] 31))) := Lib.hid (Bal hb _)
    clear hb
    have Xs : Hid (OMx w1.heap.size (w2.alloc (.cells #[.int .i64 e1, .int .i64 e2, .slice As (e3).length cs] 31)) (.slice As (e3).length cs) us (e3)) := Lib.hid (ow_.next (Bal (Below.refl _ _) _))
    clear ow_
    replace HS := Lib.hid (HS.out.next HB.out)
    replace HS' := Lib.hid (HS'.out.next HB.out)
    replace K0 := Lib.hid (Bgo K0.out HB.out)
    have Vs : Hid ((w2.alloc (.cells #[.int .i64 e1, .int .i64 e2, .slice As (e3).length cs] 31)).heap[w2.heap.size]? = some (.cells #[.int .i64 e1, .int .i64 e2, .slice As (e3).length cs] 31)) := Lib.hid (blk_new w2 _)
    clear HB
    go_wp2_with fail
    generalize w2.alloc (.cells #[.int .i64 e1, .int .i64 e2, .slice As (e3).length cs] 31) = W2 at *
    generalize w2.heap.size = gs at *
    have Rs := Lib.hid (Xs.out.rma.mono (B' := 0) (Nat.zero_le _))
    refine (EC'.out _ HS'.out).mono ?_
    rintro e w3 ⟨v_, rfl, ⟨ut, ow_⟩, hb⟩
    obtain ⟨At, ct, rfl, ht1, ht2, _⟩ := own_form (show w3.ownsRow W2.heap.size 57 1 v_ (([] : List (List Nat))).length ut from ow_.top)
    have HB : Hid (Below W2.heap.size W2 (w3.alloc (.cells #[.int .i64 0, .int .i64 0, .slice At (([] : List (List Nat))).length ct] 31))) := Lib.hid (Bal hb _)
    clear hb
    have Xt : Hid (OMx W2.heap.size (w3.alloc (.cells #[.int .i64 0, .int .i64 0, .slice At (([] : List (List Nat))).length ct] 31)) (.slice At (([] : List (List Nat))).length ct) ut (([] : List (List Nat)))) := Lib.hid (ow_.next (Bal (Below.refl _ _) _))
    clear ow_
    replace Vs := Lib.hid (blk_next HB.out Vs.out)
    replace HS := Lib.hid (HS.out.next HB.out)
    replace HS' := Lib.hid (HS'.out.next HB.out)
    replace Xs := Lib.hid (Xs.out.next HB.out)
    replace Rs := Lib.hid (Rs.out.next HB.out)
    replace K0 := Lib.hid (Bgo K0.out HB.out)
    have Vt : Hid ((w3.alloc (.cells #[.int .i64 0, .int .i64 0, .slice At (([] : List (List Nat))).length ct] 31)).heap[w3.heap.size]? = some (.cells #[.int .i64 0, .int .i64 0, .slice At (([] : List (List Nat))).length ct] 31)) := Lib.hid (blk_new w3 _)
    clear HB
    go_wp2_with fail
    generalize w3.alloc (.cells #[.int .i64 0, .int .i64 0, .slice At (([] : List (List Nat))).length ct] 31) = W3 at *
    generalize w3.heap.size = gt at *
    have Rt := Lib.hid (Xt.out.rma.mono (B' := 0) (Nat.zero_le _))
    go_ret
    exact ⟨rfl, K0.out⟩
  obtain ⟨hD, hm0, hm4⟩ := encE_ok he
  obtain ⟨hD', _, _⟩ := encE_ok hf
  obtain ⟨M, rfl⟩ := Int.eq_ofNat_of_zero_le hm0
  have hM : M ≤ 4 := by omega
  rw [encS_ok he, he, Int.toNat_natCast] at EC
  rw [encS_ok hf, hf, Int.toNat_natCast] at EC'
  clear hm0 hm4 he hf
  have D0 : Hid (∃ l, d[0]? = some l ∧ l.length = (d.getD 0 []).length ∧ (enc d M)[0]? = some l) := Lib.hid (by obtain ⟨l, hl⟩ := get_some (show 0 < d.length by omega); exact ⟨l, hl, by rw [getD_of hl], by unfold enc; rw [List.getElem?_append_left (by omega)]; exact hl⟩)
  have D0' : Hid (∃ l, d'[0]? = some l ∧ l.length = (d'.getD 0 []).length ∧ (enc d' M)[0]? = some l) := Lib.hid (by obtain ⟨l, hl⟩ := get_some (show 0 < d'.length by omega); exact ⟨l, hl, by rw [getD_of hl], by unfold enc; rw [List.getElem?_append_left (by omega)]; exact hl⟩)
  generalize (d.getD 0 []).length = q at *
  generalize (d'.getD 0 []).length = q' at *
  have CC : Hid (∀ (W : World) (A : Option Addr) (c : Nat), (enc d M).length ≤ c → c ≤ 9223372036854775807 → RMA 0 W A (enc d M) → Calls Try.prog 31 #[Sv d.length M (.slice A (enc d M).length c)] W fun e w' => e = .returned (.int .i64 0) ∧ Below W.heap.size W w') := Lib.hid (fun W A c h1 h2 h => by
    have := refCheck_calls d.length M A c 0 (enc d M) W h1 h2 h
    rw [enc_chk hD hM] at this
    exact this)
  have WC : Hid (∀ (W : World) (A : Option Addr) (c : Nat), (enc d M).length ≤ c → c ≤ 9223372036854775807 → RMA 0 W A (enc d M) → Calls Try.prog 32 #[Sv d.length M (.slice A (enc d M).length c)] W fun e w' => e = .returned (.bool true) ∧ Below W.heap.size W w') := Lib.hid (fun W A c h1 h2 h => by
    have := refWhole_calls d.length M A c 0 (enc d M) W h1 h2 (by rw [enc_len]; have := hD.d8; omega) h
    rw [lostN_rows (enc_rows hD M) hD.n1, decide_eq_true rfl] at this
    exact this)
  have CC' : Hid (∀ (W : World) (A : Option Addr) (c : Nat), (enc d' M).length ≤ c → c ≤ 9223372036854775807 → RMA 0 W A (enc d' M) → Calls Try.prog 31 #[Sv d'.length M (.slice A (enc d' M).length c)] W fun e w' => e = .returned (.int .i64 0) ∧ Below W.heap.size W w') := Lib.hid (fun W A c h1 h2 h => by
    have := refCheck_calls d'.length M A c 0 (enc d' M) W h1 h2 h
    rw [enc_chk hD' hM] at this
    exact this)
  have WC' : Hid (∀ (W : World) (A : Option Addr) (c : Nat), (enc d' M).length ≤ c → c ≤ 9223372036854775807 → RMA 0 W A (enc d' M) → Calls Try.prog 32 #[Sv d'.length M (.slice A (enc d' M).length c)] W fun e w' => e = .returned (.bool true) ∧ Below W.heap.size W w') := Lib.hid (fun W A c h1 h2 h => by
    have := refWhole_calls d'.length M A c 0 (enc d' M) W h1 h2 (by rw [enc_len]; have := hD'.d8; omega) h
    rw [lostN_rows (enc_rows hD' M) hD'.n1, decide_eq_true rfl] at this
    exact this)
  have TW : Hid (∀ (W : World) (A : Option Addr) (c : Nat), (enc d M).length ≤ c → c ≤ 9223372036854775807 → RMA 0 W A (enc d M) → Calls Try.prog 23 #[Sv d.length M (.slice A (enc d M).length c)] W (SPost W ((d.length : Int), (M : Int), enc d M))) := Lib.hid (fun W A c h1 h2 h => refTwin_calls d.length M A c 0 (enc d M) W h1 h2 (by rw [enc_len]; have := hD.d8; omega) h (fun l hl => by rw [enc_rows hD M l hl]; have := hD.n64; omega))
  have EL : Hid (∀ (i : Nat) (l : List Nat), (enc d M)[i]? = some l → l.length = q ∧ Byt l) := Lib.hid (fun i l h => ⟨enc_rows hD M l (List.mem_of_getElem? h), enc_byt hD HBY.out.1 hM l (List.mem_of_getElem? h)⟩)
  have EL' : Hid (∀ (i : Nat) (l : List Nat), (enc d' M)[i]? = some l → l.length = q' ∧ Byt l) := Lib.hid (fun i l h => ⟨enc_rows hD' M l (List.mem_of_getElem? h), enc_byt hD' HBY.out.2 hM l (List.mem_of_getElem? h)⟩)
  have FL : Hid (q = q' → (cntP (difB (enc d M) (enc d' M)) (enc d M).length = 0 ∨ M < cntP (difB (enc d M) (enc d' M)) (enc d M).length) ∧ sdB d.length M (sumK (enc d M) (enc d' M) (enc d M).length) = true ∧ chkE d.length M (sumK (enc d M) (enc d' M) (enc d M).length) = 0) := Lib.hid (fun e => by subst e; exact ⟨far_law hD HBY.out.1 hD' HBY.out.2 c1 hM, sum_sd hD hD' c1 hM⟩)
  have hq1 := hD.n1
  have hq2 := hD.n64
  have L100 : (enc d M).length ≤ 100 := by rw [enc_len]; have := hD.d8; omega
  have L0 : 0 < (enc d M).length := by rw [enc_len]; have := hD.d1; omega
  have LL : Hid ((enc d' M).length = (enc d M).length) := Lib.hid (by rw [enc_len, enc_len, c1])
  rw [← c1] at EC' CC' WC' c1' hn' GB'
  have L0' : 0 < (enc d' M).length := by rw [LL.out]; exact L0
  clear hD hD' HBY
  generalize enc d M = m at *
  generalize enc d' M = m' at *
  have D1 : 0 < d.length := by omega
  have lq3 : ((m.length : Int) != (m'.length : Int)) = false := by rw [LL.out]; simp
  clear c0
  generalize hDl : d.length = D at *
  have HDl := Lib.hid hDl
  rw [← c1] at *
  have HC1 := Lib.hid c1
  clear hDl c1
  go_enter Try.func8, Try.ntmps8
  go_wp2_with fail
  refine (AL.out _).mono ?_
  rintro e w1 ⟨rfl, hb⟩
  replace HS := Lib.hid (HS.out.next hb)
  replace HS' := Lib.hid (HS'.out.next hb)
  replace K0 := Lib.hid (Bgo K0.out hb)
  clear hb
  go_wp2_with fail
  refine (GB.out _ HS.out).mono ?_
  rintro e w_ ⟨rfl, rfl⟩
  go_wp2_with fail
  refine (GB'.out _ HS'.out).mono ?_
  rintro e w_ ⟨rfl, rfl⟩
  go_wp2_with fail
  refine (EC.out _ HS.out).mono ?_
  rintro e w2 ⟨v_, rfl, ⟨us, ow_⟩, hb⟩
  obtain ⟨As, cs, rfl, hs1, hs2, _⟩ := own_form (show w2.ownsRow w1.heap.size 57 1 v_ (m).length us from ow_.top)
  have HB : Hid (Below w1.heap.size w1 (w2.alloc (.cells #[.int .i64 (D : Int), .int .i64 (M : Int), .slice As (m).length cs] 31))) := Lib.hid (Bal hb _)
  clear hb
  have Xs : Hid (OMx w1.heap.size (w2.alloc (.cells #[.int .i64 (D : Int), .int .i64 (M : Int), .slice As (m).length cs] 31)) (.slice As (m).length cs) us (m)) := Lib.hid (ow_.next (Bal (Below.refl _ _) _))
  clear ow_
  replace HS := Lib.hid (HS.out.next HB.out)
  replace HS' := Lib.hid (HS'.out.next HB.out)
  replace K0 := Lib.hid (Bgo K0.out HB.out)
  have Vs : Hid ((w2.alloc (.cells #[.int .i64 (D : Int), .int .i64 (M : Int), .slice As (m).length cs] 31)).heap[w2.heap.size]? = some (.cells #[.int .i64 (D : Int), .int .i64 (M : Int), .slice As (m).length cs] 31)) := Lib.hid (blk_new w2 _)
  clear HB
  go_wp2_with fail
  generalize w2.alloc (.cells #[.int .i64 (D : Int), .int .i64 (M : Int), .slice As (m).length cs] 31) = W2 at *
  generalize w2.heap.size = gs at *
  have Rs := Lib.hid (Xs.out.rma.mono (B' := 0) (Nat.zero_le _))
  refine (EC'.out _ HS'.out).mono ?_
  rintro e w3 ⟨v_, rfl, ⟨ut, ow_⟩, hb⟩
  obtain ⟨At, ct, rfl, ht1, ht2, _⟩ := own_form (show w3.ownsRow W2.heap.size 57 1 v_ (m').length ut from ow_.top)
  have HB : Hid (Below W2.heap.size W2 (w3.alloc (.cells #[.int .i64 (D : Int), .int .i64 (M : Int), .slice At (m').length ct] 31))) := Lib.hid (Bal hb _)
  have yVs := blk_next hb Vs.out
  have slVs := blk_lt yVs
  have sVs0 := blk_cell yVs 0 _ rfl
  have sVs1 := blk_cell yVs 1 _ rfl
  have sVs2 := blk_cell yVs 2 _ rfl
  clear yVs
  clear hb
  have Xt : Hid (OMx W2.heap.size (w3.alloc (.cells #[.int .i64 (D : Int), .int .i64 (M : Int), .slice At (m').length ct] 31)) (.slice At (m').length ct) ut (m')) := Lib.hid (ow_.next (Bal (Below.refl _ _) _))
  clear ow_
  replace Vs := Lib.hid (blk_next HB.out Vs.out)
  replace HS := Lib.hid (HS.out.next HB.out)
  replace HS' := Lib.hid (HS'.out.next HB.out)
  replace Xs := Lib.hid (Xs.out.next HB.out)
  replace Rs := Lib.hid (Rs.out.next HB.out)
  replace K0 := Lib.hid (Bgo K0.out HB.out)
  have Vt : Hid ((w3.alloc (.cells #[.int .i64 (D : Int), .int .i64 (M : Int), .slice At (m').length ct] 31)).heap[w3.heap.size]? = some (.cells #[.int .i64 (D : Int), .int .i64 (M : Int), .slice At (m').length ct] 31)) := Lib.hid (blk_new w3 _)
  clear HB
  go_wp2_with fail
  clear slVs sVs0 sVs1 sVs2
  generalize w3.alloc (.cells #[.int .i64 (D : Int), .int .i64 (M : Int), .slice At (m').length ct] 31) = W3 at *
  generalize w3.heap.size = gt at *
  have Rt := Lib.hid (Xt.out.rma.mono (B' := 0) (Nat.zero_le _))
  refine (CC.out _ _ _ hs1 hs2 Rs.out).mono ?_
  rintro e w4 ⟨rfl, hb⟩
  replace Vs := Lib.hid (blk_next hb Vs.out)
  replace Vt := Lib.hid (blk_next hb Vt.out)
  replace HS := Lib.hid (HS.out.next hb)
  replace HS' := Lib.hid (HS'.out.next hb)
  replace Xs := Lib.hid (Xs.out.next hb)
  replace Rs := Lib.hid (Rs.out.next hb)
  replace Xt := Lib.hid (Xt.out.next hb)
  replace Rt := Lib.hid (Rt.out.next hb)
  replace K0 := Lib.hid (Bgo K0.out hb)
  clear hb
  have slVt := blk_lt Vt.out
  have sVt0 := blk_cell Vt.out 0 _ rfl
  have sVt1 := blk_cell Vt.out 1 _ rfl
  have sVt2 := blk_cell Vt.out 2 _ rfl
  go_wp2_with fail
  refine (CC'.out _ _ _ ht1 ht2 Rt.out).mono ?_
  rintro e w5 ⟨rfl, hb⟩
  clear slVt sVt0 sVt1 sVt2
  replace Vs := Lib.hid (blk_next hb Vs.out)
  replace Vt := Lib.hid (blk_next hb Vt.out)
  replace HS := Lib.hid (HS.out.next hb)
  replace HS' := Lib.hid (HS'.out.next hb)
  replace Xs := Lib.hid (Xs.out.next hb)
  replace Rs := Lib.hid (Rs.out.next hb)
  replace Xt := Lib.hid (Xt.out.next hb)
  replace Rt := Lib.hid (Rt.out.next hb)
  replace K0 := Lib.hid (Bgo K0.out hb)
  clear hb
  have slVs := blk_lt Vs.out
  have sVs0 := blk_cell Vs.out 0 _ rfl
  have sVs1 := blk_cell Vs.out 1 _ rfl
  have sVs2 := blk_cell Vs.out 2 _ rfl
  go_wp2_with fail
  refine (WC.out _ _ _ hs1 hs2 Rs.out).mono ?_
  rintro e w6 ⟨rfl, hb⟩
  clear slVs sVs0 sVs1 sVs2
  replace Vs := Lib.hid (blk_next hb Vs.out)
  replace Vt := Lib.hid (blk_next hb Vt.out)
  replace HS := Lib.hid (HS.out.next hb)
  replace HS' := Lib.hid (HS'.out.next hb)
  replace Xs := Lib.hid (Xs.out.next hb)
  replace Rs := Lib.hid (Rs.out.next hb)
  replace Xt := Lib.hid (Xt.out.next hb)
  replace Rt := Lib.hid (Rt.out.next hb)
  replace K0 := Lib.hid (Bgo K0.out hb)
  clear hb
  have slVt := blk_lt Vt.out
  have sVt0 := blk_cell Vt.out 0 _ rfl
  have sVt1 := blk_cell Vt.out 1 _ rfl
  have sVt2 := blk_cell Vt.out 2 _ rfl
  go_wp2_with fail
  refine (WC'.out _ _ _ ht1 ht2 Rt.out).mono ?_
  rintro e w7 ⟨rfl, hb⟩
  clear slVt sVt0 sVt1 sVt2
  replace Vs := Lib.hid (blk_next hb Vs.out)
  replace Vt := Lib.hid (blk_next hb Vt.out)
  replace HS := Lib.hid (HS.out.next hb)
  replace HS' := Lib.hid (HS'.out.next hb)
  replace Xs := Lib.hid (Xs.out.next hb)
  replace Rs := Lib.hid (Rs.out.next hb)
  replace Xt := Lib.hid (Xt.out.next hb)
  replace Rt := Lib.hid (Rt.out.next hb)
  replace K0 := Lib.hid (Bgo K0.out hb)
  clear hb
  have slVs := blk_lt Vs.out
  have sVs0 := blk_cell Vs.out 0 _ rfl
  have sVs1 := blk_cell Vs.out 1 _ rfl
  have sVs2 := blk_cell Vs.out 2 _ rfl
  have slVt := blk_lt Vt.out
  have sVt0 := blk_cell Vt.out 0 _ rfl
  have sVt1 := blk_cell Vt.out 1 _ rfl
  have sVt2 := blk_cell Vt.out 2 _ rfl
  go_upto_region 10 with fail
  clear slVs sVs0 sVs1 sVs2 slVt sVt0 sVt1 sVt2
  obtain ⟨l0, hl0, hlq0, hm0⟩ := D0.out
  obtain ⟨l0', hl0', hlq0', hm0'⟩ := D0'.out
  clear D0 D0'
  obtain ⟨b1, o1, B1, k1, e1, hb1, x1, y1, z1, _⟩ := HS.out.at_ hl0
  subst e1
  rw [hlq0] at x1 y1
  rw [Nat.add_zero] at x1
  obtain ⟨b2, o2, B2, k2, e2, hb2, x2, y2, z2, _⟩ := HS'.out.at_ hl0'
  subst e2
  rw [hlq0'] at x2 y2
  rw [Nat.add_zero] at x2
  obtain ⟨b3, o3, B3, k3, e3, hb3, x3, y3, z3, _⟩ := Rs.out.at_ hm0
  subst e3
  rw [hlq0] at x3 y3
  rw [Nat.add_zero] at x3
  obtain ⟨b4, o4, B4, k4, e4, hb4, x4, y4, z4, _⟩ := Rt.out.at_ hm0'
  subst e4
  rw [hlq0'] at x4 y4
  rw [Nat.add_zero] at x4
  clear hl0 hl0' hm0 hm0' hlq0 hlq0'
  have slVs := blk_lt Vs.out
  have sVs2 := blk_cell Vs.out 2 _ rfl
  have slVt := blk_lt Vt.out
  have sVt2 := blk_cell Vt.out 2 _ rfl
  have L0i : (0 : Int) < (m.length : Int) := by omega
  have L0j : (0 : Int) < (m'.length : Int) := by omega
  have D1i : (0 : Int) < (D : Int) := by omega
  by_cases eq : q = q'
  rotate_left
  · have eq' : ((q : Int) != (q' : Int)) = true := by rw [bne_iff_ne]; omega
    go_quiet (fail)
    go_wp2_with fail
    go_ret
    exact ⟨rfl, below_drewN K0.out _⟩
  have eq' : ((q : Int) != (q' : Int)) = false := by rw [eq]; simp
  have FL2 := Lib.hid (FL.out eq)
  have EQ := Lib.hid eq
  clear FL eq
  go_quiet (fail)
  clear x1 x2 x3 x4 y1 y2 y3 y4 z1 z2 z3 z4 hb1 hb2 hb3 hb4
  clear slVs sVs2 slVt sVt2
  have HN : Hid (Below w7.heap.size w7 (w7.drewN nq)) := Lib.hid (below_drewN (Below.refl _ _) nq)
  replace Vs := Lib.hid (blk_next HN.out Vs.out)
  replace Vt := Lib.hid (blk_next HN.out Vt.out)
  replace HS := Lib.hid (HS.out.next HN.out)
  replace HS' := Lib.hid (HS'.out.next HN.out)
  replace Xs := Lib.hid (Xs.out.next HN.out)
  replace Rs := Lib.hid (Rs.out.next HN.out)
  replace Xt := Lib.hid (Xt.out.next HN.out)
  replace Rt := Lib.hid (Rt.out.next HN.out)
  replace K0 := Lib.hid (Bgo K0.out HN.out)
  clear HN
  generalize w7.drewN nq = Wb at *
  have slVs := blk_lt Vs.out
  have sVs0 := blk_cell Vs.out 0 _ rfl
  have sVs1 := blk_cell Vs.out 1 _ rfl
  have sVs2 := blk_cell Vs.out 2 _ rfl
  go_wp2_with fail
  clear slVs sVs0 sVs1 sVs2
  have FVs := Vs
  have FVt := Vt
  have FRs := Rs
  have FRt := Rt
  have hwb : w.heap.size ≤ Wb.heap.size := K0.out.size
  have BC : Hid (Below Wb.heap.size Wb Wb) := Lib.hid (Below.refl _ _)
  clear Xs Xt
  refine (TW.out _ _ _ hs1 hs2 Rs.out).mono ?_
  rintro e w8 ⟨v_, rfl, ⟨uu, ow_⟩, hb⟩
  obtain ⟨Au, cu, rfl, hu1, hu2, _⟩ := own_form (show w8.ownsRow Wb.heap.size 57 1 v_ (m).length uu from ow_.top)
  have HB : Hid (Below Wb.heap.size Wb (w8.alloc (.cells #[.int .i64 (D : Int), .int .i64 (M : Int), .slice Au (m).length cu] 31))) := Lib.hid (Bal hb _)
  clear hb
  have Xu : Hid (OMx Wb.heap.size (w8.alloc (.cells #[.int .i64 (D : Int), .int .i64 (M : Int), .slice Au (m).length cu] 31)) (.slice Au (m).length cu) uu (m)) := Lib.hid (ow_.next (Bal (Below.refl _ _) _))
  clear ow_
  replace Vs := Lib.hid (blk_next HB.out Vs.out)
  replace Vt := Lib.hid (blk_next HB.out Vt.out)
  replace Rs := Lib.hid (Rs.out.next HB.out)
  replace Rt := Lib.hid (Rt.out.next HB.out)
  replace BC := Lib.hid (BC.out.trans (HB.out.mono BC.out.size))
  replace K0 := Lib.hid (Bgo K0.out HB.out)
  have Vu : Hid ((w8.alloc (.cells #[.int .i64 (D : Int), .int .i64 (M : Int), .slice Au (m).length cu] 31)).heap[w8.heap.size]? = some (.cells #[.int .i64 (D : Int), .int .i64 (M : Int), .slice Au (m).length cu] 31)) := Lib.hid (blk_new w8 _)
  clear HB
  go_wp2_with fail
  generalize w8.alloc (.cells #[.int .i64 (D : Int), .int .i64 (M : Int), .slice Au (m).length cu] 31) = W8 at *
  generalize w8.heap.size = gu at *
  have Ru := Lib.hid (Xu.out.rma.mono (B' := 0) (Nat.zero_le _))
  obtain ⟨gh, cp, ev, _, hgl⟩ := Xu.out.top.form L0
  simp only [Value.slice.injEq, true_and] at ev
  obtain ⟨ev, rfl⟩ := ev
  subst ev
  clear Vs Vt Rs Rt HS HS' AL GB GB' EC EC' CC CC' WC WC' TW Ru
  go_loopw [12, 14] (fun t i wr => ∃ k : Nat, k ≤ m.length ∧ i = .int .i64 k ∧ t = .int .i64 (cntP (difB m m') k : Nat) ∧ Hid (KU Wb.heap.size W8 wr) ∧ Hid (OMx Wb.heap.size wr (.slice (some ⟨gh, 0, none⟩) m.length cu) uu (sumK m m' k))) (fun _ i _ => m.length - (intOf i).toNat)
  case atStart => exact ⟨0, by omega, rfl, rfl, Lib.hid (KU.refl _ _), by rw [sumK_zero]; exact Xu⟩
  case round =>
    obtain ⟨k, hk, rfl, rfl, K, X⟩ := hrel
    have XB : Hid (Below Wb.heap.size Wb wr) := Lib.hid (BC.out.trans K.out.bel)
    have vs := blk_next XB.out FVs.out
    have vt := blk_next XB.out FVt.out
    have vu := K.out.oth _ _ _ _ Vu.out ne_st_u8
    have s2 := blk_cell vs 2 _ rfl
    have t2 := blk_cell vt 2 _ rfl
    have hct : cntP (difB m m') k ≤ k := cntP_le _ _
    have HVU := Lib.hid vu
    clear vs vt vu
    by_cases hlt : k < m.length
    · obtain ⟨l, hl⟩ := get_some hlt
      obtain ⟨l', hl'⟩ := get_some (show k < m'.length by rw [LL.out]; exact hlt)
      obtain ⟨hlq, hlb⟩ := EL.out k l hl
      obtain ⟨hlq', hlb'⟩ := EL'.out k l' hl'
      obtain ⟨b5, o5, A5, c5, e5, hb5, h51, h52, h53, h54⟩ := FRs.out.at_ hl
      obtain ⟨b6, o6, A6, c6, e6, hb6, h61, h62, h63, h64⟩ := FRt.out.at_ hl'
      simp only [Option.some.injEq, Addr.mk.injEq, and_true] at e5 e6
      obtain ⟨rfl, rfl⟩ := e5
      obtain ⟨rfl, rfl⟩ := e6
      have h55 := (XB.out.cell (p := ⟨_, _, none⟩) hb5).trans h51
      have h65 := (XB.out.cell (p := ⟨_, _, none⟩) hb6).trans h61
      obtain ⟨g, cp, hu, hB, hg2, hcp1, hcp2, _, _⟩ := Xu.out.fam.form hl (by omega)
      have cv1 : ∀ nq, (convert 57 9 (.slice A5 l.length c5)).run Try.prog (wr.drewN nq) = .ok (.string (bstr l)) (wr.drewN nq) := fun nq => conv_rba c5 ((h54.next XB.out).drewN nq)
      have cv2 : ∀ nq, (convert 57 9 (.slice A6 l'.length c6)).run Try.prog (wr.drewN nq) = .ok (.string (bstr l')) (wr.drewN nq) := fun nq => conv_rba c6 ((h64.next XB.out).drewN nq)
      rw [hlq] at cv1 h55 h52 hu hcp1
      rw [hlq'] at cv2 h65 h62
      have HH := Lib.hid (And.intro hl (And.intro hl' (And.intro hu (And.intro h64 (And.intro h61 hb6)))))
      have HQ := Lib.hid (And.intro hlq (And.intro hlq' (And.intro hlb hlb')))
      have k1 : (0 : Int) ≤ (k : Int) := by omega
      have k2 : (k : Int) < (m.length : Int) := by omega
      have k3 : (k : Int) < (m'.length : Int) := by rw [LL.out]; exact k2
      have q := bstr_eq hlb hlb'
      clear hl hl' hu h64 h61 hlq hlq' hlb hlb' h51 h54 XB hb5 hb6 hg2 hB
      by_cases e : l = l'
      · have q' : ((bstr l).toList == (bstr l').toList) = true := by rw [q]; simp [e]
        have E : Hid (difB m m' k = false) := Lib.hid (by unfold difB; rw [getD_of HH.out.1, getD_of HH.out.2.1, decide_eq_true e]; rfl)
        have CN : Hid ((cntP (difB m m') (k + 1) : Int) = (cntP (difB m m') k : Int)) := Lib.hid (by rw [cntP_succ, E.out]; rfl)
        clear e q E
        generalize bstr l = sl at *
        generalize bstr l' = sl' at *
        go_wp2_with fail
        go_quiet (fail)
        go_wp2_with fail
        clear cv1 cv2 q' h55 h65 s2 t2 HVU
        obtain ⟨wo, rfl⟩ : ∃ wo : World, wo = wr := ⟨_, rfl⟩
        go_loopw [15, 135, 136, 137, 138, 139, 140, 141, 142, 143, 144, 145, 146, 147, 148, 149, 150, 151, 152, 153, 154, 155, 156, 157, 158, 159, 160, 161, 162] (fun j _ _ _ _ _ _ _ _ _ _ _ _ _ _ _ _ _ _ _ _ _ _ _ _ _ _ _ _ W => ∃ t : Nat, t ≤ q' ∧ j = .int .i64 t ∧ Hid (KU Wb.heap.size W8 W) ∧ Hid (OMx Wb.heap.size W (.slice (some ⟨gh, 0, none⟩) m.length cu) uu ((sumK m m' k).set k (xorK l' l t)))) (fun j _ _ _ _ _ _ _ _ _ _ _ _ _ _ _ _ _ _ _ _ _ _ _ _ _ _ _ _ _ => q' - (intOf j).toNat)
        case atStart => exact ⟨0, by omega, rfl, Lib.hid (K.out.drewN _), Lib.hid ((X.out.next (below_drewN (Below.refl _ _) _)).ext (by rw [xorK_zero, sumK_same HH.out.1]))⟩
        case round =>
          obtain ⟨t, ht, rfl, K2, X2⟩ := hrel
          have XB : Hid (Below Wb.heap.size Wb wr) := Lib.hid (BC.out.trans K2.out.bel)
          have t2 := blk_cell (blk_next XB.out FVt.out) 2 _ rfl
          have u2 := blk_cell (K2.out.oth _ _ _ _ Vu.out ne_st_u8) 2 _ rfl
          have h65 := (XB.out.cell (p := ⟨_, _, none⟩) HH.out.2.2.2.2.2).trans HH.out.2.2.2.2.1
          rw [HQ.out.2.1] at h65
          by_cases hlt2 : t < q'
          · obtain ⟨y, hy⟩ := get_some (show t < l'.length by rw [HQ.out.2.1]; exact hlt2)
            obtain ⟨x, hx⟩ := get_some (show t < l.length by rw [HQ.out.1, EQ.out]; exact hlt2)
            obtain ⟨b7, o7, e7, hb7, h71, hy2⟩ := HH.out.2.2.2.1.at_ hy
            subst e7
            have h75 := (XB.out.cell (p := ⟨_, _, none⟩) hb7).trans h71
            have hx2 := HQ.out.2.2.1.at_ hx
            have top := K2.out.own Xu.out.top ne_sl_u8
            have h81 : wr.cell? ⟨gh, k, none⟩ = some (.slice (some ⟨g, 0, none⟩) q cp) := by rw [top.cellAt k (by omega)]; exact HH.out.2.2.1
            have hl2 : Hid (((sumK m m' k).set k (xorK l' l t))[k]? = some (xorK l' l t)) := Lib.hid (by rw [List.getElem?_set, if_pos rfl, if_pos (by rw [sumK_len]; exact hlt)])
            have hu2 : Hid (uu[k]? = some (.slice (some ⟨g, 0, none⟩) (xorK l' l t).length cp)) := Lib.hid (by rw [xorK_len, HQ.out.1]; exact HH.out.2.2.1)
            have ho := X2.out.row k _ _ hu2.out hl2.out
            have h82 : wr.cell? ⟨g, t, none⟩ = some (.int .u8 (x : Int)) := by rw [ho.cellAt t (by rw [xorK_len, HQ.out.1, EQ.out]; omega)]; exact bv_get (xorK_at hx)
            have h83 : wr.frozen? ⟨g, t, none⟩ = false := ho.frozenAt t
            have X3 : Hid (bits BinOp.xor IntKind.u8 (x : Int) (y : Int) = ((x ^^^ y : Nat) : Int)) := Lib.hid (u8_xor_nat x y hx2 hy2)
            have HXY := Lib.hid (And.intro hx hy)
            have PT := Lib.hid (X2.out.put (a := t) (x := x ^^^ y) hl2.out hu2.out (xor_lt hx2 hy2) (Nat.le_trans BC.out.size K2.out.bel.size))
            have t1 : (0 : Int) ≤ (t : Int) := by omega
            have t3 : (t : Int) < (q' : Int) := by omega
            have t4 : (t : Int) < (q : Int) := by rw [EQ.out]; exact t3
            clear hx hy ho top hl2 hu2 h71 hb7
            go_wp2_with fail
            refine wp_region_still_tail 18 (by kernel_rfl) (by kernel_rfl) ?_
            simp only [List.take_succ_cons, List.take_zero, List.drop_succ_cons, List.drop_zero]
            repeat still_step
            refine wpStill_nil ?_
            go_wp2_with fail
            rw [X3.out]
            refine ⟨⟨t + 1, by omega, by go_num, Lib.hid (K2.out.trans PT.out.2).drew, Lib.hid ((PT.out.1.next (Below.refl _ _).drew).ext ?_)⟩, by simp [intOf]; omega⟩
            rw [List.set_set, xorK_succ HXY.out.1 HXY.out.2]
          · obtain rfl : q' = t := by omega
            go_wp2_with fail
            go_roundw
            case rel =>
              refine ⟨k + 1, by omega, by go_num, by rw [CN.out], K2, Lib.hid (X2.out.ext ?_)⟩
              rw [sumK_succ HH.out.1 HH.out.2.1, HQ.out.1, EQ.out]
            case measure => simp [intOf]; omega
      · have q' : ((bstr l).toList == (bstr l').toList) = false := by rw [q]; simp [e]
        have E : Hid (difB m m' k = true) := Lib.hid (by unfold difB; rw [getD_of HH.out.1, getD_of HH.out.2.1, decide_eq_false e]; rfl)
        have CN : Hid ((cntP (difB m m') (k + 1) : Int) = (cntP (difB m m') k : Int) + 1) := Lib.hid (by rw [cntP_succ, E.out]; rfl)
        clear e q E
        generalize bstr l = sl at *
        generalize bstr l' = sl' at *
        go_wp2_with fail
        go_quiet (fail)
        go_wp2_with fail
        clear cv1 cv2 q' h55 h65 s2 t2 HVU
        obtain ⟨wo, rfl⟩ : ∃ wo : World, wo = wr := ⟨_, rfl⟩
        go_loopw [15, 135, 136, 137, 138, 139, 140, 141, 142, 143, 144, 145, 146, 147, 148, 149, 150, 151, 152, 153, 154, 155, 156, 157, 158, 159, 160, 161, 162] (fun j _ _ _ _ _ _ _ _ _ _ _ _ _ _ _ _ _ _ _ _ _ _ _ _ _ _ _ _ W => ∃ t : Nat, t ≤ q' ∧ j = .int .i64 t ∧ Hid (KU Wb.heap.size W8 W) ∧ Hid (OMx Wb.heap.size W (.slice (some ⟨gh, 0, none⟩) m.length cu) uu ((sumK m m' k).set k (xorK l' l t)))) (fun j _ _ _ _ _ _ _ _ _ _ _ _ _ _ _ _ _ _ _ _ _ _ _ _ _ _ _ _ _ => q' - (intOf j).toNat)
        case atStart => exact ⟨0, by omega, rfl, Lib.hid (K.out.drewN _), Lib.hid ((X.out.next (below_drewN (Below.refl _ _) _)).ext (by rw [xorK_zero, sumK_same HH.out.1]))⟩
        case round =>
          obtain ⟨t, ht, rfl, K2, X2⟩ := hrel
          have XB : Hid (Below Wb.heap.size Wb wr) := Lib.hid (BC.out.trans K2.out.bel)
          have t2 := blk_cell (blk_next XB.out FVt.out) 2 _ rfl
          have u2 := blk_cell (K2.out.oth _ _ _ _ Vu.out ne_st_u8) 2 _ rfl
          have h65 := (XB.out.cell (p := ⟨_, _, none⟩) HH.out.2.2.2.2.2).trans HH.out.2.2.2.2.1
          rw [HQ.out.2.1] at h65
          by_cases hlt2 : t < q'
          · obtain ⟨y, hy⟩ := get_some (show t < l'.length by rw [HQ.out.2.1]; exact hlt2)
            obtain ⟨x, hx⟩ := get_some (show t < l.length by rw [HQ.out.1, EQ.out]; exact hlt2)
            obtain ⟨b7, o7, e7, hb7, h71, hy2⟩ := HH.out.2.2.2.1.at_ hy
            subst e7
            have h75 := (XB.out.cell (p := ⟨_, _, none⟩) hb7).trans h71
            have hx2 := HQ.out.2.2.1.at_ hx
            have top := K2.out.own Xu.out.top ne_sl_u8
            have h81 : wr.cell? ⟨gh, k, none⟩ = some (.slice (some ⟨g, 0, none⟩) q cp) := by rw [top.cellAt k (by omega)]; exact HH.out.2.2.1
            have hl2 : Hid (((sumK m m' k).set k (xorK l' l t))[k]? = some (xorK l' l t)) := Lib.hid (by rw [List.getElem?_set, if_pos rfl, if_pos (by rw [sumK_len]; exact hlt)])
            have hu2 : Hid (uu[k]? = some (.slice (some ⟨g, 0, none⟩) (xorK l' l t).length cp)) := Lib.hid (by rw [xorK_len, HQ.out.1]; exact HH.out.2.2.1)
            have ho := X2.out.row k _ _ hu2.out hl2.out
            have h82 : wr.cell? ⟨g, t, none⟩ = some (.int .u8 (x : Int)) := by rw [ho.cellAt t (by rw [xorK_len, HQ.out.1, EQ.out]; omega)]; exact bv_get (xorK_at hx)
            have h83 : wr.frozen? ⟨g, t, none⟩ = false := ho.frozenAt t
            have X3 : Hid (bits BinOp.xor IntKind.u8 (x : Int) (y : Int) = ((x ^^^ y : Nat) : Int)) := Lib.hid (u8_xor_nat x y hx2 hy2)
            have HXY := Lib.hid (And.intro hx hy)
            have PT := Lib.hid (X2.out.put (a := t) (x := x ^^^ y) hl2.out hu2.out (xor_lt hx2 hy2) (Nat.le_trans BC.out.size K2.out.bel.size))
            have t1 : (0 : Int) ≤ (t : Int) := by omega
            have t3 : (t : Int) < (q' : Int) := by omega
            have t4 : (t : Int) < (q : Int) := by rw [EQ.out]; exact t3
            clear hx hy ho top hl2 hu2 h71 hb7
            go_wp2_with fail
            refine wp_region_still_tail 18 (by kernel_rfl) (by kernel_rfl) ?_
            simp only [List.take_succ_cons, List.take_zero, List.drop_succ_cons, List.drop_zero]
            repeat still_step
            refine wpStill_nil ?_
            go_wp2_with fail
            rw [X3.out]
            refine ⟨⟨t + 1, by omega, by go_num, Lib.hid (K2.out.trans PT.out.2).drew, Lib.hid ((PT.out.1.next (Below.refl _ _).drew).ext ?_)⟩, by simp [intOf]; omega⟩
            rw [List.set_set, xorK_succ HXY.out.1 HXY.out.2]
          · obtain rfl : q' = t := by omega
            go_wp2_with fail
            go_roundw
            case rel =>
              refine ⟨k + 1, by omega, by go_num, by rw [CN.out], K2, Lib.hid (X2.out.ext ?_)⟩
              rw [sumK_succ HH.out.1 HH.out.2.1, HQ.out.1, EQ.out]
            case measure => simp [intOf]; omega
    · have hkm : k = m.length := by omega
      subst hkm
      have SD : Hid (∀ (W : World), RMA 0 W (some ⟨gh, 0, none⟩) (sumK m m' m.length) → Calls Try.prog 28 #[Sv D M (.slice (some ⟨gh, 0, none⟩) m.length cu)] W fun e w' => e = .returned (.tuple #[.bool true, .int .i64 0]) ∧ Below W.heap.size W w') := Lib.hid (fun W h => by
        have := soundX_calls D M (some ⟨gh, 0, none⟩) cu 0 (sumK m m' m.length) W (by rw [sumK_len]; exact hu1) hu2 h
        rw [FL2.out.2.1, FL2.out.2.2, sumK_len] at this
        exact this)
      have N9 : Hid (Below w.heap.size w wr) := Lib.hid (K0.out.trans (K.out.bel.mono hwb))
      have R9 := Lib.hid (X.out.rma.mono (B' := 0) (Nat.zero_le _))
      have FC := Lib.hid FL2.out.1
      clear FL2 X K t2
      generalize cntP (difB m m') m.length = ct at *
      rcases FC.out with hz | hz
      · have e0 : ((ct : Int) == 0) = true := by rw [hz]; rfl
        clear hz
        have slHVU := blk_lt HVU.out
        have sHVU0 := blk_cell HVU.out 0 _ rfl
        have sHVU1 := blk_cell HVU.out 1 _ rfl
        have sHVU2 := blk_cell HVU.out 2 _ rfl
        go_wp2_with fail
        refine (SD.out _ R9.out).mono ?_
        rintro e w9 ⟨rfl, hb⟩
        clear slHVU sHVU0 sHVU1 sHVU2
        replace HVU := Lib.hid (blk_next hb HVU.out)
        replace R9 := Lib.hid (R9.out.next hb)
        replace N9 := Lib.hid (Bgo N9.out hb)
        clear hb
        go_wp2_with fail
        go_ret
        exact ⟨rfl, N9.out⟩
      · have e0 : ((ct : Int) == 0) = false := by rw [beq_eq_false_iff_ne]; omega
        have slHVU := blk_lt HVU.out
        have sHVU0 := blk_cell HVU.out 0 _ rfl
        have sHVU1 := blk_cell HVU.out 1 _ rfl
        have sHVU2 := blk_cell HVU.out 2 _ rfl
        go_wp2_with fail
        refine (SD.out _ R9.out).mono ?_
        rintro e w9 ⟨rfl, hb⟩
        clear slHVU sHVU0 sHVU1 sHVU2
        replace HVU := Lib.hid (blk_next hb HVU.out)
        replace R9 := Lib.hid (R9.out.next hb)
        replace N9 := Lib.hid (Bgo N9.out hb)
        clear hb
        go_wp2_with fail
        go_ret
        exact ⟨rfl, N9.out⟩
end Go.Proofs.Ytmpmeeacdllomaa
