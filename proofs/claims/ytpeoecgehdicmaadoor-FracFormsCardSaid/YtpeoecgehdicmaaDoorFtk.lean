/- Contract of layer 1: numbers as the reference reads them. -/
import Derived.Test.YtpeoecgehdicmaaDoorFti
import Derived.Test.YtpeoecgehdicmaaDoorFtc
namespace Go.Proofs.YtpeoecgehdicmaaDoor
open Go.ChangeShapes Go.WideShapes Go.ChangeAt Go.RowKit
set_option linter.unusedVariables false
attribute [local go_sem ↓] Go.wp_at_zero Go.wp_at_succ

/- what is left to be read at place k -/
def restL (l : List UInt8) (k : Nat) : List UInt8 := if k = 0 then bodyL l else l.drop k
theorem str_get (s : ByteArray) (k : Nat) (h : k < s.size) : s.data.toList[k]? = some s[k] := by
  have : k < s.data.toList.length := by rw [Array.length_toList]; exact h
  rw [List.getElem?_eq_getElem this]
  rfl
theorem negL_head {l : List UInt8} {c : UInt8} (h : l[0]? = some c) : negL l = (c.toNat == 45) := by
  cases l with
  | nil => simp at h
  | cons x r => simp at h; subst h; rfl
theorem rest_next {l : List UInt8} {k : Nat} {c : UInt8} (h : l[k]? = some c) (hk : k = 0 → c.toNat ≠ 45) : restL l k = c :: restL l (k + 1) := by
  have e : restL l (k + 1) = l.drop (k + 1) := by unfold restL; rw [if_neg (by omega)]
  obtain ⟨h1, h2⟩ := List.getElem?_eq_some_iff.1 h
  have d := List.drop_eq_getElem_cons h1
  rw [h2] at d
  rw [e, ← d]
  unfold restL
  by_cases z : k = 0
  · subst z
    rw [if_pos rfl]
    unfold bodyL
    rw [negL_head h, if_neg]
    · rfl
    · simp; exact hk rfl
  · rw [if_neg z]
theorem rest_minus {l : List UInt8} {c : UInt8} (h : l[0]? = some c) (hc : c.toNat = 45) : restL l 0 = restL l 1 := by
  unfold restL
  rw [if_pos rfl, if_neg (by decide)]
  unfold bodyL
  rw [negL_head h, hc]
  simp
theorem rest_end {l : List UInt8} {k : Nat} (h : l.length ≤ k) (h0 : 0 < l.length) : restL l k = [] := by
  unfold restL
  rw [if_neg (by omega), List.drop_eq_nil_of_le h]
theorem num_nil {n : Nat} {R : Option Nat} (h : numL [] n = R) : R = some n := h.symm
theorem ret_nb {a b : Int} {c d : Bool} (h1 : a = b) (h2 : c = d) : Ending.returned (.tuple #[.int .i64 a, .bool c]) = .returned (.tuple #[.int .i64 b, .bool d]) := by rw [h1, h2]
def NUP (l : List UInt8) (w : World) (e : Ending) (w' : World) : Prop := ∃ v b, e = .returned (.tuple #[.int .i64 v, .bool b]) ∧ NR l v b ∧ Below w.heap.size w w'
set_option maxRecDepth 100000 in
set_option maxHeartbeats 8000000 in
theorem number_calls (s : ByteArray) (w : World) (hs : s.size ≤ 9223372036854775807) :
    Calls Tryd.prog 37 #[.string s] w (NUP s.data.toList w) := by
  have SL := s_len s
  have SG := Lib.hid (fun k (h : k < s.size) => str_get s k h)
  obtain ⟨l, hl⟩ : ∃ l, s.data.toList = l := ⟨_, rfl⟩
  rw [hl] at SL SG ⊢
  have HL := Lib.hid hl
  clear hl
  by_cases z : s.size = 0
  · have NO := Lib.hid (NR.long (l := l) (.inl (by omega)) 0)
    have k0 : ((s.size : Int) == 0) = true := by rw [z]; rfl
    have LE := Lib.hid SL
    clear SL z
    go_enter Tryd.func37, Tryd.ntmps37
    go_wp2_with fail
    go_ret2
    exact ⟨0, false, rfl, NO.out, Below.refl _ _⟩
  by_cases big : 20 < s.size
  · have NO := Lib.hid (NR.long (l := l) (.inr (by omega)) 0)
    have k0 : ((s.size : Int) == 0) = false := by rw [beq_eq_false_iff_ne]; omega
    have k1 : decide ((20 : Int) < (s.size : Int)) = true := decide_eq_true (by omega)
    have LE := Lib.hid SL
    clear SL z
    go_enter Tryd.func37, Tryd.ntmps37
    go_wp2_with fail
    go_ret2
    exact ⟨0, false, rfl, NO.out, Below.refl _ _⟩
  have k0 : ((s.size : Int) == 0) = false := by rw [beq_eq_false_iff_ne]; omega
  have k1 : decide ((20 : Int) < (s.size : Int)) = false := decide_eq_false (by omega)
  have s1 : 0 < s.size := by omega
  have s2 : s.size ≤ 20 := by omega
  have ODD := Lib.hid (fun h => NR.odd (l := l) h 0)
  have VAL := Lib.hid (fun m h => NR.val (l := l) (m := m) h)
  obtain ⟨R, hR⟩ : ∃ R, numL (bodyL l) 0 = R := ⟨_, rfl⟩
  have ST : Hid (numL (restL l 0) 0 = R) := Lib.hid (by rw [← hR]; rfl)
  rw [hR] at ODD
  have VAL2 := Lib.hid (fun m (h : R = some m) => VAL.out m (hR.trans h))
  have LE := Lib.hid SL
  clear SL z big hR VAL
  go_enter Tryd.func37, Tryd.ntmps37
  go_wp2_with fail
  go_loop [4, 5] (fun n i => ∃ k m : Nat, k ≤ s.size ∧ i = .int .i64 k ∧ n = .int .i64 m ∧ m ≤ 1000000000000000009 ∧ Hid (numL (restL l k) m = R) ∧ (k = 0 → m = 0)) (fun _ i => s.size - (intOf i).toNat)
  case atStart => exact ⟨0, 0, by omega, rfl, rfl, by omega, ST, fun _ => rfl⟩
  case round =>
    clear ST
    obtain ⟨k, m, hk, rfl, rfl, hm, ST, m0⟩ := hrel
    by_cases hlt : k < s.size
    · have hc := SG.out k hlt
      by_cases mi : k = 0 ∧ s[k].toNat = 45
      · obtain ⟨rfl, h45⟩ := mi
        obtain rfl := m0 rfl
        have e1 : ((s[0].toNat : Int) == 45) = true := by rw [h45]; rfl
        have S2 : Hid (numL (restL l 1) 0 = R) := Lib.hid (by rw [← rest_minus hc h45]; exact ST.out)
        clear hc h45 ST m0
        go_wp2_with fail
        go_round
        case rel => exact ⟨1, 0, by omega, by go_num, rfl, by omega, S2, fun h => by omega⟩
        case measure => simp [intOf]; omega
      · have RN := rest_next hc (fun h h' => mi ⟨h, h'⟩)
        have S2 := ST.out
        rw [RN] at S2
        unfold numL at S2
        have HS := Lib.hid S2
        clear S2 RN hc ST m0
        have z1 : decide ((0 : Int) ≤ (k : Int)) = true := decide_eq_true (by omega)
        by_cases lo : s[k].toNat < 48
        · have RO := Lib.hid (ODD.out (by rw [← HS.out, if_pos (.inl lo)]))
          have e2 : decide ((s[k].toNat : Int) < 48) = true := decide_eq_true (by omega)
          by_cases c45 : s[k].toNat = 45
          · have e1 : ((s[k].toNat : Int) == 45) = true := by rw [c45]; rfl
            have e3 : ((k : Int) == 0) = false := by rw [beq_eq_false_iff_ne]; omega
            clear c45 lo mi HS
            go_wp2_with fail
            go_ret2
            exact ⟨0, false, rfl, RO.out, Below.refl _ _⟩
          · have e1 : ((s[k].toNat : Int) == 45) = false := by rw [beq_eq_false_iff_ne]; omega
            clear c45 lo mi HS
            go_wp2_with fail
            go_ret2
            exact ⟨0, false, rfl, RO.out, Below.refl _ _⟩
        · have e2 : decide ((s[k].toNat : Int) < 48) = false := decide_eq_false (by omega)
          have e1 : ((s[k].toNat : Int) == 45) = false := by rw [beq_eq_false_iff_ne]; omega
          by_cases hi : 57 < s[k].toNat
          · have RO := Lib.hid (ODD.out (by rw [← HS.out, if_pos (.inr (.inl hi))]))
            have e3 : decide ((57 : Int) < (s[k].toNat : Int)) = true := decide_eq_true (by omega)
            clear lo hi mi HS
            go_wp2_with fail
            go_ret2
            exact ⟨0, false, rfl, RO.out, Below.refl _ _⟩
          · have e3 : decide ((57 : Int) < (s[k].toNat : Int)) = false := decide_eq_false (by omega)
            by_cases mb : 100000000000000000 < m
            · have RO := Lib.hid (ODD.out (by rw [← HS.out, if_pos (.inr (.inr mb))]))
              have e4 : decide ((100000000000000000 : Int) < (m : Int)) = true := decide_eq_true (by omega)
              clear lo hi mi HS mb
              go_wp2_with fail
              go_ret2
              exact ⟨0, false, rfl, RO.out, Below.refl _ _⟩
            · have e4 : decide ((100000000000000000 : Int) < (m : Int)) = false := decide_eq_false (by omega)
              have S2 : Hid (numL (restL l (k + 1)) (10 * m + (s[k].toNat - 48)) = R) := Lib.hid (by rw [← HS.out, if_neg (by omega)])
              have b1 : (48 : Int) ≤ (s[k].toNat : Int) := by omega
              have b2 : (s[k].toNat : Int) ≤ 57 := by omega
              have b3 : (m : Int) ≤ 100000000000000000 := by omega
              have kk : k + 1 ≤ s.size := hlt
              have CA : Hid ((10 * (m : Int) + ((s[k].toNat : Int) - 48)) = ((10 * m + (s[k].toNat - 48) : Nat) : Int)) := Lib.hid (by omega)
              have NB : Hid (10 * m + (s[k].toNat - 48) ≤ 1000000000000000009) := Lib.hid (by omega)
              clear lo hi mi HS mb hm
              go_wp2_with fail
              go_round
              case rel => exact ⟨k + 1, 10 * m + (s[k].toNat - 48), kk, by go_num, by rw [← CA.out], NB.out, S2, fun h => by omega⟩
              case measure => simp [intOf]; omega
    · have e : k = s.size := by omega
      have RM : Hid (R = some m) := Lib.hid (num_nil (by rw [← rest_end (l := l) (k := k) (by rw [LE.out]; omega) (by rw [LE.out]; omega)]; exact ST.out))
      have VL := Lib.hid (VAL2.out m RM.out)
      have h0 := SG.out 0 s1
      have NG : Hid (negL l = (s[0].toNat == 45)) := Lib.hid (negL_head h0)
      clear h0 ST m0 RM
      have s0 : 0 < s.size := s1
      by_cases neg : s[0].toNat = 45
      · have e1 : ((s[0].toNat : Int) == 45) = true := by rw [neg]; rfl
        have V2 := VL.out
        rw [show negL l = true by rw [NG.out, neg]; rfl, show sgn true m = -(m : Int) from rfl] at V2
        have HV := Lib.hid V2
        clear V2 VL NG neg
        obtain ⟨v, hv⟩ : ∃ v : Int, -(m : Int) = v := ⟨_, rfl⟩
        rw [hv] at HV
        have v1 : -9223372036854775808 < v := by omega
        have v2 : v ≤ 9223372036854775807 := by omega
        by_cases c1 : -1000000000000000000 ≤ v
        rotate_left
        · have d1 : decide ((-1000000000000000000 : Int) ≤ v) = false := decide_eq_false c1
          rw [d1] at HV
          clear c1
          go_wp2_with fail
          go_ret2
          exact ⟨v, false, rfl, HV.out, Below.refl _ _⟩
        have d1 : decide ((-1000000000000000000 : Int) ≤ v) = true := decide_eq_true c1
        rw [d1] at HV
        by_cases c2 : v ≤ 1000000000000000000
        rotate_left
        · have d2 : decide (v ≤ (1000000000000000000 : Int)) = false := decide_eq_false c2
          rw [d2] at HV
          clear c1 c2
          go_wp2_with fail
          go_ret2
          exact ⟨v, false, rfl, HV.out, Below.refl _ _⟩
        have d2 : decide (v ≤ (1000000000000000000 : Int)) = true := decide_eq_true c2
        rw [d2, Bool.true_and, Bool.true_and] at HV
        have DC := Lib.hid (fun W => dec_calls v W v1 v2)
        have SE : Hid (s.toList = l) := Lib.hid (by rw [ByteArray.toList_eq]; exact HL.out)
        generalize Lib.itoa v = tx at *
        clear c1 c2
        go_wp2_with fail
        refine (DC.out _).mono ?_
        rintro e w1 ⟨rfl, hb⟩
        have NN := Lib.hid hb
        clear hb
        go_wp2_with fail
        go_ret2
        exact ⟨v, tx == s.toList, rfl, by rw [SE.out]; exact HV.out, NN.out⟩
      · have e1 : ((s[0].toNat : Int) == 45) = false := by rw [beq_eq_false_iff_ne]; omega
        have V2 := VL.out
        rw [show negL l = false by rw [NG.out, beq_eq_false_iff_ne]; exact neg, show sgn false m = (m : Int) from rfl] at V2
        have HV := Lib.hid V2
        clear V2 VL NG neg
        obtain ⟨v, hv⟩ : ∃ v : Int, (m : Int) = v := ⟨_, rfl⟩
        rw [hv] at HV
        have v1 : -9223372036854775808 < v := by omega
        have v2 : v ≤ 9223372036854775807 := by omega
        by_cases c1 : -1000000000000000000 ≤ v
        rotate_left
        · have d1 : decide ((-1000000000000000000 : Int) ≤ v) = false := decide_eq_false c1
          rw [d1] at HV
          clear c1
          go_wp2_with fail
          go_ret2
          exact ⟨v, false, rfl, HV.out, Below.refl _ _⟩
        have d1 : decide ((-1000000000000000000 : Int) ≤ v) = true := decide_eq_true c1
        rw [d1] at HV
        by_cases c2 : v ≤ 1000000000000000000
        rotate_left
        · have d2 : decide (v ≤ (1000000000000000000 : Int)) = false := decide_eq_false c2
          rw [d2] at HV
          clear c1 c2
          go_wp2_with fail
          go_ret2
          exact ⟨v, false, rfl, HV.out, Below.refl _ _⟩
        have d2 : decide (v ≤ (1000000000000000000 : Int)) = true := decide_eq_true c2
        rw [d2, Bool.true_and, Bool.true_and] at HV
        have DC := Lib.hid (fun W => dec_calls v W v1 v2)
        have SE : Hid (s.toList = l) := Lib.hid (by rw [ByteArray.toList_eq]; exact HL.out)
        generalize Lib.itoa v = tx at *
        clear c1 c2
        go_wp2_with fail
        refine (DC.out _).mono ?_
        rintro e w1 ⟨rfl, hb⟩
        have NN := Lib.hid hb
        clear hb
        go_wp2_with fail
        go_ret2
        exact ⟨v, tx == s.toList, rfl, by rw [SE.out]; exact HV.out, NN.out⟩
end Go.Proofs.YtpeoecgehdicmaaDoor
