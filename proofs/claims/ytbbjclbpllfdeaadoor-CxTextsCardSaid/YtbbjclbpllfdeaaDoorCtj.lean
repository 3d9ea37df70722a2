/- Contract of layer 25: Number of the reference. -/
import Derived.Test.YtbbjclbpllfdeaaDoorCti
namespace Go.Proofs.YtbbjclbpllfdeaaDoor
open Go.ChangeShapes Go.WideShapes Go.ChangeAt Go.RowKit Cxm
set_option linter.unusedVariables false
attribute [local go_sem ↓] Go.wp_at_zero Go.wp_at_succ

set_option maxRecDepth 100000 in
set_option maxHeartbeats 8000000 in
theorem number_calls (s : ByteArray) (w : World) (hs : s.size ≤ 9223372036854775807) :
    Calls Tryd.prog 35 #[.string s] w (NUX s.data.toList w) := by
  have SL := s_len s
  obtain ⟨l, hl⟩ : ∃ l, s.data.toList = l := ⟨_, rfl⟩
  rw [hl] at SL ⊢
  have ODD := Lib.hid (fun h => NX.odd (l := l) h 0)
  have VAL := Lib.hid (fun m h => NX.val (l := l) (m := m) h)
  have HL := Lib.hid hl
  clear hl
  by_cases one : 1 < s.size
  rotate_left
  · have d1 : decide ((1 : Int) < (s.size : Int)) = false := decide_eq_false (by omega)
    have NG : Hid (negL l = false) := Lib.hid (by unfold negL; rw [decide_eq_false (by omega)]; rfl)
    have BD : Hid (s.data.toList = bodyL l) := Lib.hid (by unfold bodyL; rw [NG.out]; exact HL.out)
    have SL' := Lib.hid SL
    clear SL one
    go_enter Tryd.func35, Tryd.ntmps35
    have SZ := s_len s
    rw [BD.out] at SZ
    by_cases z : s.size < 1
    · have z1 : decide ((s.size : Int) < 1) = true := decide_eq_true (by omega)
      have RO := Lib.hid (ODD.out (.inl (by omega)))
      have SZ' := Lib.hid SZ
      clear z SZ
      go_wp2_with fail
      go_ret2
      exact ⟨0, false, rfl, RO.out, rfl⟩
    have z1 : decide ((s.size : Int) < 1) = false := decide_eq_false (by omega)
    by_cases big : 10 < s.size
    · have z2 : decide ((10 : Int) < (s.size : Int)) = true := decide_eq_true (by omega)
      have RO := Lib.hid (ODD.out (.inr (.inl (by omega))))
      have SZ' := Lib.hid SZ
      clear z big SZ
      go_wp2_with fail
      go_ret2
      exact ⟨0, false, rfl, RO.out, rfl⟩
    have z2 : decide ((10 : Int) < (s.size : Int)) = false := decide_eq_false (by omega)
    have SG := Lib.hid (fun k (h : k < s.size) => str_get s k h)
    rw [BD.out] at SG
    obtain ⟨R, hR⟩ : ∃ R, numL (bodyL l) 0 = R := ⟨_, rfl⟩
    have ST : Hid (numL ((bodyL l).drop 0) 0 = R) := Lib.hid (by rw [List.drop_zero]; exact hR)
    have OD2 := Lib.hid (fun (h : R = none) => ODD.out (.inr (.inr (hR.trans h))))
    have VA2 := Lib.hid (fun m (h : R = some m) => VAL.out m (hR.trans h))
    clear hR ODD VAL
    have sb : s.size ≤ 10 := by omega
    have SZ' := Lib.hid SZ
    clear SZ big z
    go_wp2_with fail
    go_loop [5, 6] (fun n i => ∃ k m : Nat, k ≤ s.size ∧ i = .int .i64 k ∧ n = .int .i64 m ∧ Hid (m < 10 ^ k) ∧ Hid (numL ((bodyL l).drop k) m = R)) (fun _ i => s.size - (intOf i).toNat)
    case atStart => exact ⟨0, 0, by omega, rfl, rfl, Lib.hid (by decide), ST⟩
    case round =>
      clear ST
      obtain ⟨k, m, hk, rfl, rfl, PW, ST⟩ := hrel
      have mb := pow_bd PW.out (by omega)
      by_cases hlt : k < s.size
      · have hc := SG.out k hlt
        have RN := List.drop_eq_getElem_cons (List.getElem?_eq_some_iff.1 hc).1
        rw [(List.getElem?_eq_some_iff.1 hc).2] at RN
        have S2 := ST.out
        rw [RN] at S2
        unfold numL at S2
        have HS := Lib.hid S2
        clear S2 RN hc ST
        have z3 : decide ((0 : Int) ≤ (k : Int)) = true := decide_eq_true (by omega)
        by_cases lo : s[k].toNat < 48
        · have RO := Lib.hid (OD2.out (by rw [← HS.out, if_pos (.inl lo)]))
          have e2 : decide ((s[k].toNat : Int) < 48) = true := decide_eq_true (by omega)
          clear lo HS
          go_wp2_with fail
          go_ret2
          exact ⟨0, false, rfl, RO.out, rfl⟩
        · have e2 : decide ((s[k].toNat : Int) < 48) = false := decide_eq_false (by omega)
          by_cases hi : 57 < s[k].toNat
          · have RO := Lib.hid (OD2.out (by rw [← HS.out, if_pos (.inr hi)]))
            have e3 : decide ((57 : Int) < (s[k].toNat : Int)) = true := decide_eq_true (by omega)
            clear lo hi HS
            go_wp2_with fail
            go_ret2
            exact ⟨0, false, rfl, RO.out, rfl⟩
          · have e3 : decide ((57 : Int) < (s[k].toNat : Int)) = false := decide_eq_false (by omega)
            have S2 : Hid (numL ((bodyL l).drop (k + 1)) (10 * m + (s[k].toNat - 48)) = R) := Lib.hid (by rw [← HS.out, if_neg (by omega)])
            have P2 : Hid (10 * m + (s[k].toNat - 48) < 10 ^ (k + 1)) := Lib.hid (pow_step PW.out _ (by omega))
            have b1 : (48 : Int) ≤ (s[k].toNat : Int) := by omega
            have b2 : (s[k].toNat : Int) ≤ 57 := by omega
            have b3 : (m : Int) ≤ 10000000000 := by omega
            have kk : k + 1 ≤ s.size := hlt
            have CA : Hid ((10 * (m : Int) + ((s[k].toNat : Int) - 48)) = ((10 * m + (s[k].toNat - 48) : Nat) : Int)) := Lib.hid (by omega)
            clear lo hi HS mb PW
            go_wp2_with fail
            go_round
            case rel => exact ⟨k + 1, 10 * m + (s[k].toNat - 48), kk, by go_num, by rw [← CA.out], P2, S2⟩
            case measure => simp [intOf]; omega
      · have RM : Hid (R = some m) := Lib.hid (by have := ST.out; rw [List.drop_eq_nil_of_le (by rw [SZ'.out]; omega)] at this; exact this.symm)
        have VL := Lib.hid (VA2.out m RM.out)
        rw [NG.out] at VL
        clear ST RM
        have mb3 : (m : Int) ≤ 10000000000 := by omega
        go_wp2_with fail
        go_ret2
        exact ⟨_, true, rfl, VL.out, rfl⟩
  have d1 : decide ((1 : Int) < (s.size : Int)) = true := decide_eq_true (by omega)
  have s1 : 0 < s.size := by omega
  have h0 := str_get s 0 s1
  rw [HL.out] at h0
  by_cases neg : s[0].toNat = 45
  rotate_left
  · have e1 : ((s[0].toNat : Int) == 45) = false := by rw [beq_eq_false_iff_ne]; omega
    have NG : Hid (negL l = false) := Lib.hid (by rw [neg_head h0, show (s[0].toNat == 45) = false by rw [beq_eq_false_iff_ne]; exact neg, Bool.and_false])
    have BD : Hid (s.data.toList = bodyL l) := Lib.hid (by unfold bodyL; rw [NG.out]; exact HL.out)
    have SL' := Lib.hid SL
    clear SL h0 neg one
    go_enter Tryd.func35, Tryd.ntmps35
    have SZ := s_len s
    rw [BD.out] at SZ
    by_cases z : s.size < 1
    · have z1 : decide ((s.size : Int) < 1) = true := decide_eq_true (by omega)
      have RO := Lib.hid (ODD.out (.inl (by omega)))
      have SZ' := Lib.hid SZ
      clear z SZ
      go_wp2_with fail
      go_ret2
      exact ⟨0, false, rfl, RO.out, rfl⟩
    have z1 : decide ((s.size : Int) < 1) = false := decide_eq_false (by omega)
    by_cases big : 10 < s.size
    · have z2 : decide ((10 : Int) < (s.size : Int)) = true := decide_eq_true (by omega)
      have RO := Lib.hid (ODD.out (.inr (.inl (by omega))))
      have SZ' := Lib.hid SZ
      clear z big SZ
      go_wp2_with fail
      go_ret2
      exact ⟨0, false, rfl, RO.out, rfl⟩
    have z2 : decide ((10 : Int) < (s.size : Int)) = false := decide_eq_false (by omega)
    have SG := Lib.hid (fun k (h : k < s.size) => str_get s k h)
    rw [BD.out] at SG
    obtain ⟨R, hR⟩ : ∃ R, numL (bodyL l) 0 = R := ⟨_, rfl⟩
    have ST : Hid (numL ((bodyL l).drop 0) 0 = R) := Lib.hid (by rw [List.drop_zero]; exact hR)
    have OD2 := Lib.hid (fun (h : R = none) => ODD.out (.inr (.inr (hR.trans h))))
    have VA2 := Lib.hid (fun m (h : R = some m) => VAL.out m (hR.trans h))
    clear hR ODD VAL
    have sb : s.size ≤ 10 := by omega
    have SZ' := Lib.hid SZ
    clear SZ big z
    go_wp2_with fail
    go_loop [5, 6] (fun n i => ∃ k m : Nat, k ≤ s.size ∧ i = .int .i64 k ∧ n = .int .i64 m ∧ Hid (m < 10 ^ k) ∧ Hid (numL ((bodyL l).drop k) m = R)) (fun _ i => s.size - (intOf i).toNat)
    case atStart => exact ⟨0, 0, by omega, rfl, rfl, Lib.hid (by decide), ST⟩
    case round =>
      clear ST
      obtain ⟨k, m, hk, rfl, rfl, PW, ST⟩ := hrel
      have mb := pow_bd PW.out (by omega)
      by_cases hlt : k < s.size
      · have hc := SG.out k hlt
        have RN := List.drop_eq_getElem_cons (List.getElem?_eq_some_iff.1 hc).1
        rw [(List.getElem?_eq_some_iff.1 hc).2] at RN
        have S2 := ST.out
        rw [RN] at S2
        unfold numL at S2
        have HS := Lib.hid S2
        clear S2 RN hc ST
        have z3 : decide ((0 : Int) ≤ (k : Int)) = true := decide_eq_true (by omega)
        by_cases lo : s[k].toNat < 48
        · have RO := Lib.hid (OD2.out (by rw [← HS.out, if_pos (.inl lo)]))
          have e2 : decide ((s[k].toNat : Int) < 48) = true := decide_eq_true (by omega)
          clear lo HS
          go_wp2_with fail
          go_ret2
          exact ⟨0, false, rfl, RO.out, rfl⟩
        · have e2 : decide ((s[k].toNat : Int) < 48) = false := decide_eq_false (by omega)
          by_cases hi : 57 < s[k].toNat
          · have RO := Lib.hid (OD2.out (by rw [← HS.out, if_pos (.inr hi)]))
            have e3 : decide ((57 : Int) < (s[k].toNat : Int)) = true := decide_eq_true (by omega)
            clear lo hi HS
            go_wp2_with fail
            go_ret2
            exact ⟨0, false, rfl, RO.out, rfl⟩
          · have e3 : decide ((57 : Int) < (s[k].toNat : Int)) = false := decide_eq_false (by omega)
            have S2 : Hid (numL ((bodyL l).drop (k + 1)) (10 * m + (s[k].toNat - 48)) = R) := Lib.hid (by rw [← HS.out, if_neg (by omega)])
            have P2 : Hid (10 * m + (s[k].toNat - 48) < 10 ^ (k + 1)) := Lib.hid (pow_step PW.out _ (by omega))
            have b1 : (48 : Int) ≤ (s[k].toNat : Int) := by omega
            have b2 : (s[k].toNat : Int) ≤ 57 := by omega
            have b3 : (m : Int) ≤ 10000000000 := by omega
            have kk : k + 1 ≤ s.size := hlt
            have CA : Hid ((10 * (m : Int) + ((s[k].toNat : Int) - 48)) = ((10 * m + (s[k].toNat - 48) : Nat) : Int)) := Lib.hid (by omega)
            clear lo hi HS mb PW
            go_wp2_with fail
            go_round
            case rel => exact ⟨k + 1, 10 * m + (s[k].toNat - 48), kk, by go_num, by rw [← CA.out], P2, S2⟩
            case measure => simp [intOf]; omega
      · have RM : Hid (R = some m) := Lib.hid (by have := ST.out; rw [List.drop_eq_nil_of_le (by rw [SZ'.out]; omega)] at this; exact this.symm)
        have VL := Lib.hid (VA2.out m RM.out)
        rw [NG.out] at VL
        clear ST RM
        have mb3 : (m : Int) ≤ 10000000000 := by omega
        go_wp2_with fail
        go_ret2
        exact ⟨_, true, rfl, VL.out, rfl⟩
  have e1 : ((s[0].toNat : Int) == 45) = true := by rw [neg]; rfl
  have NG : Hid (negL l = true) := Lib.hid (by rw [neg_head h0, neg, SL, decide_eq_true one]; rfl)
  have BD : Hid ((s.extract 1 s.size).data.toList = bodyL l) := Lib.hid (by rw [ext_drop, HL.out]; unfold bodyL; rw [NG.out]; simp)
  have SL' := Lib.hid SL
  have sl : (1 : Int) ≤ (s.size : Int) := by omega
  clear SL h0 neg
  go_enter Tryd.func35, Tryd.ntmps35
  have EX : s.extract 1 s.size = s.extract 1 s.size := rfl
  clear EX
  have SE : Hid ((s.extract 1 s.size).size = s.size - 1) := Lib.hid (by rw [← s_len, ext_drop, List.length_drop, s_len])
  have SZ : (bodyL l).length = s.size - 1 := by rw [← BD.out, s_len]; exact SE.out
  by_cases z : (s.size - 1 : Nat) < 1
  · have z1 : decide (((s.size - 1 : Nat) : Int) < 1) = true := decide_eq_true (by omega)
    have RO := Lib.hid (ODD.out (.inl (by omega)))
    have SZ' := Lib.hid SZ
    clear z SZ
    go_wp2_with fail
    go_ret2
    exact ⟨0, false, rfl, RO.out, rfl⟩
  have z1 : decide (((s.size - 1 : Nat) : Int) < 1) = false := decide_eq_false (by omega)
  by_cases big : 10 < (s.size - 1 : Nat)
  · have z2 : decide ((10 : Int) < ((s.size - 1 : Nat) : Int)) = true := decide_eq_true (by omega)
    have RO := Lib.hid (ODD.out (.inr (.inl (by omega))))
    have SZ' := Lib.hid SZ
    clear z big SZ
    go_wp2_with fail
    go_ret2
    exact ⟨0, false, rfl, RO.out, rfl⟩
  have z2 : decide ((10 : Int) < ((s.size - 1 : Nat) : Int)) = false := decide_eq_false (by omega)
  have SG : Hid (∀ (k : Nat) (h : k < s.size - 1), (bodyL l)[k]? = some ((s.extract 1 s.size)[k]'(by rw [SE.out]; exact h))) := Lib.hid (fun k h => by rw [← BD.out]; exact str_get _ k (by rw [SE.out]; exact h))
  obtain ⟨R, hR⟩ : ∃ R, numL (bodyL l) 0 = R := ⟨_, rfl⟩
  have ST : Hid (numL ((bodyL l).drop 0) 0 = R) := Lib.hid (by rw [List.drop_zero]; exact hR)
  have OD2 := Lib.hid (fun (h : R = none) => ODD.out (.inr (.inr (hR.trans h))))
  have VA2 := Lib.hid (fun m (h : R = some m) => VAL.out m (hR.trans h))
  clear hR ODD VAL
  have sb : (s.size - 1 : Nat) ≤ 10 := by omega
  have SZ' := Lib.hid SZ
  clear SZ big z
  go_wp2_with fail
  go_loop [5, 6] (fun n i => ∃ k m : Nat, k ≤ (s.size - 1 : Nat) ∧ i = .int .i64 k ∧ n = .int .i64 m ∧ Hid (m < 10 ^ k) ∧ Hid (numL ((bodyL l).drop k) m = R)) (fun _ i => (s.size - 1 : Nat) - (intOf i).toNat)
  case atStart => exact ⟨0, 0, by omega, rfl, rfl, Lib.hid (by decide), ST⟩
  case round =>
    clear ST
    obtain ⟨k, m, hk, rfl, rfl, PW, ST⟩ := hrel
    have mb := pow_bd PW.out (by omega)
    by_cases hlt : k < (s.size - 1 : Nat)
    · have hc := SG.out k hlt
      have he : k < (s.extract 1 s.size).size := by rw [SE.out]; exact hlt
      have RN := List.drop_eq_getElem_cons (List.getElem?_eq_some_iff.1 hc).1
      rw [(List.getElem?_eq_some_iff.1 hc).2] at RN
      have S2 := ST.out
      rw [RN] at S2
      unfold numL at S2
      have HS := Lib.hid S2
      clear S2 RN hc ST
      have z3 : decide ((0 : Int) ≤ (k : Int)) = true := decide_eq_true (by omega)
      by_cases lo : (s.extract 1 s.size)[k].toNat < 48
      · have RO := Lib.hid (OD2.out (by rw [← HS.out, if_pos (.inl lo)]))
        have e2 : decide (((s.extract 1 s.size)[k].toNat : Int) < 48) = true := decide_eq_true (by omega)
        clear lo HS
        go_wp2_with fail
        go_ret2
        exact ⟨0, false, rfl, RO.out, rfl⟩
      · have e2 : decide (((s.extract 1 s.size)[k].toNat : Int) < 48) = false := decide_eq_false (by omega)
        by_cases hi : 57 < (s.extract 1 s.size)[k].toNat
        · have RO := Lib.hid (OD2.out (by rw [← HS.out, if_pos (.inr hi)]))
          have e3 : decide ((57 : Int) < ((s.extract 1 s.size)[k].toNat : Int)) = true := decide_eq_true (by omega)
          clear lo hi HS
          go_wp2_with fail
          go_ret2
          exact ⟨0, false, rfl, RO.out, rfl⟩
        · have e3 : decide ((57 : Int) < ((s.extract 1 s.size)[k].toNat : Int)) = false := decide_eq_false (by omega)
          have S2 : Hid (numL ((bodyL l).drop (k + 1)) (10 * m + ((s.extract 1 s.size)[k].toNat - 48)) = R) := Lib.hid (by rw [← HS.out, if_neg (by omega)])
          have P2 : Hid (10 * m + ((s.extract 1 s.size)[k].toNat - 48) < 10 ^ (k + 1)) := Lib.hid (pow_step PW.out _ (by omega))
          have b1 : (48 : Int) ≤ ((s.extract 1 s.size)[k].toNat : Int) := by omega
          have b2 : ((s.extract 1 s.size)[k].toNat : Int) ≤ 57 := by omega
          have b3 : (m : Int) ≤ 10000000000 := by omega
          have kk : k + 1 ≤ (s.size - 1 : Nat) := hlt
          have CA : Hid ((10 * (m : Int) + (((s.extract 1 s.size)[k].toNat : Int) - 48)) = ((10 * m + ((s.extract 1 s.size)[k].toNat - 48) : Nat) : Int)) := Lib.hid (by omega)
          clear lo hi HS mb PW
          go_wp2_with fail
          go_round
          case rel => exact ⟨k + 1, 10 * m + ((s.extract 1 s.size)[k].toNat - 48), kk, by go_num, by rw [← CA.out], P2, S2⟩
          case measure => simp [intOf]; omega
    · have RM : Hid (R = some m) := Lib.hid (by have := ST.out; rw [List.drop_eq_nil_of_le (by rw [SZ'.out]; omega)] at this; exact this.symm)
      have VL := Lib.hid (VA2.out m RM.out)
      rw [NG.out] at VL
      clear ST RM
      have mb3 : (m : Int) ≤ 10000000000 := by omega
      go_wp2_with fail
      go_ret2
      exact ⟨_, true, rfl, VL.out, rfl⟩
end Go.Proofs.YtbbjclbpllfdeaaDoor
