/- Several texts in one. -/
import Derived.Test.YtfangplfbbgphaaGreatDoorMF11
namespace Go.Proofs.YtfangplfbbgphaaGreatDoor
open Go.ChangeShapes Go.WideShapes Go.ChangeAt Go.RowKit
set_option linter.unusedVariables false
set_option maxRecDepth 100000
set_option linter.unusedSimpArgs false
set_option maxRecDepth 100000
attribute [local go_sem ↓] Go.wp_at_zero Go.wp_at_succ
theorem str_len (s : ByteArray) : s.data.toList.length = s.size := by rw [Array.length_toList]; rfl
theorem str_get (s : ByteArray) (k : Nat) (h : k < s.size) : s.data.toList[k]? = some s[k] := by
 have : k < s.data.toList.length := by rw [Array.length_toList]; exact h
 rw [List.getElem?_eq_getElem this]
 rfl
theorem all_bad {l : List UInt8} {k : Nat} {c : UInt8} (h : l[k]? = some c) (hc : namC c.toNat = false) : namB l = false := by
 unfold namB
 have : (l.all fun c => namC c.toNat) = false := by
  rw [List.all_eq_false]
  exact ⟨c, List.mem_of_getElem? h, by rw [hc]; simp⟩
 rw [this, Bool.and_false, Bool.and_false]
theorem all_good {l : List UInt8} (h1 : 1 ≤ l.length) (h2 : l.length ≤ 40) {c0 : UInt8} (h0 : l[0]? = some c0) (hl : lowB c0.toNat = true) (h : ∀ (k : Nat) (c : UInt8), l[k]? = some c → namC c.toNat = true) : namB l = true := by
 unfold namB
 have e : l.headD 0 = c0 := by cases l with | nil => simp at h0 | cons x r => simp at h0; simp [h0]
 rw [e, hl, decide_eq_true ⟨h1, h2⟩, Bool.true_and, Bool.true_and, List.all_eq_true]
 intro c hc
 obtain ⟨k, hk⟩ := List.mem_iff_getElem?.1 hc
 exact h k c hk
theorem head_bad {l : List UInt8} {c0 : UInt8} (h0 : l[0]? = some c0) (hl : lowB c0.toNat = false) : namB l = false := by
 unfold namB
 have e : l.headD 0 = c0 := by cases l with | nil => simp at h0 | cons x r => simp at h0; simp [h0]
 rw [e, hl, Bool.false_and, Bool.and_false]
theorem len_bad {l : List UInt8} (h : l.length < 1 ∨ 40 < l.length) : namB l = false := by
 unfold namB
 rw [decide_eq_false (by omega), Bool.false_and]
set_option maxHeartbeats 4000000 in
theorem named_calls (s : ByteArray) (w : World) (hs : s.size ≤ 9223372036854775807) :
  Calls Tryz.prog 78 #[.string s] w fun e w' => e = .returned (.bool (namB s.data.toList)) ∧ w = w' := by
 have SL := str_len s
 have SG := Lib.hid (fun k (h : k < s.size) => str_get s k h)
 obtain ⟨l, hl⟩ : ∃ l, s.data.toList = l := ⟨_, rfl⟩
 rw [hl] at SL SG ⊢
 clear hl
 by_cases z : s.size < 1
 ·have NB := Lib.hid (len_bad (l := l) (.inl (by omega)))
  have d1 : decide ((s.size : Int) < 1) = true := decide_eq_true (by omega)
  have SL' := Lib.hid SL
  clear SL z
  go_enter Tryz.func78, Tryz.ntmps78
  go_wp2_with fail
  go_ret
  exact ⟨ret_bool NB.out.symm, rfl⟩
 have d1 : decide ((s.size : Int) < 1) = false := decide_eq_false (by omega)
 by_cases big : 40 < s.size
 ·have NB := Lib.hid (len_bad (l := l) (.inr (by omega)))
  have d2 : decide ((40 : Int) < (s.size : Int)) = true := decide_eq_true (by omega)
  have SL' := Lib.hid SL
  clear SL z big
  go_enter Tryz.func78, Tryz.ntmps78
  go_wp2_with fail
  go_ret
  exact ⟨ret_bool NB.out.symm, rfl⟩
 have d2 : decide ((40 : Int) < (s.size : Int)) = false := decide_eq_false (by omega)
 have s1 : 0 < s.size := by omega
 have s2 : s.size ≤ 40 := by omega
 have h0 := SG.out 0 s1
 have SL' := Lib.hid SL
 clear SL z big
 by_cases lo : s[0].toNat < 97
 ·have e1 : decide ((s[0].toNat : Int) < 97) = true := decide_eq_true (by omega)
  have NB := Lib.hid (head_bad h0 (by unfold lowB; exact decide_eq_false (by omega)))
  clear h0
  go_enter Tryz.func78, Tryz.ntmps78
  go_wp2_with fail
  go_ret
  exact ⟨ret_bool NB.out.symm, rfl⟩
 have e1 : decide ((s[0].toNat : Int) < 97) = false := decide_eq_false (by omega)
 by_cases hi : 122 < s[0].toNat
 ·have e2 : decide ((122 : Int) < (s[0].toNat : Int)) = true := decide_eq_true (by omega)
  have NB := Lib.hid (head_bad h0 (by unfold lowB; exact decide_eq_false (by omega)))
  clear h0
  go_enter Tryz.func78, Tryz.ntmps78
  go_wp2_with fail
  go_ret
  exact ⟨ret_bool NB.out.symm, rfl⟩
 have e2 : decide ((122 : Int) < (s[0].toNat : Int)) = false := decide_eq_false (by omega)
 have AG := Lib.hid (fun h => all_good (l := l) (by rw [SL'.out]; omega) (by rw [SL'.out]; omega) h0 (by unfold lowB; exact decide_eq_true (by omega)) h)
 clear h0 lo hi
 go_enter Tryz.func78, Tryz.ntmps78
 go_wp2_with fail
 go_loop [3] (fun i => ∃ k : Nat, k ≤ s.size ∧ i = .int .i64 k ∧ Hid (∀ (j : Nat) (c : UInt8), j < k → l[j]? = some c → namC c.toNat = true)) (fun i => s.size - (intOf i).toNat)
 case atStart => exact ⟨0, by omega, rfl, Lib.hid (fun j c h => by omega)⟩
 case round =>
  obtain ⟨k, hk, rfl, GD⟩ := hrel
  by_cases hlt : k < s.size
  ·have hc := Lib.hid (SG.out k hlt)
   have kk : k + 1 ≤ s.size := hlt
   have z1 : decide ((0 : Int) ≤ (k : Int)) = true := decide_eq_true (by omega)
   by_cases p1 : 97 ≤ s[k].toNat ∧ s[k].toNat ≤ 122
   ·have d1 : decide ((s[k].toNat : Int) < 97) = false := decide_eq_false (by omega)
    have d2 : decide ((122 : Int) < (s[k].toNat : Int)) = false := decide_eq_false (by omega)
    have d5 : ((s[k].toNat : Int) != 45) = true := by rw [bne_iff_ne]; omega
    have d3 : decide ((s[k].toNat : Int) < 48) = false := decide_eq_false (by omega)
    have d4 : decide ((57 : Int) < (s[k].toNat : Int)) = true := decide_eq_true (by omega)
    have G2 : Hid (∀ (j : Nat) (c : UInt8), j < k + 1 → l[j]? = some c → namC c.toNat = true) := Lib.hid (fun j c hj h => by
     by_cases e : j = k
     ·subst e
      rw [hc.out] at h
      cases h
      unfold namC; exact decide_eq_true (Or.inl p1)
     ·exact GD.out j c (by omega) h)
    clear GD hc
    have PP := Lib.hid p1
    clear p1
    go_wp2_with fail
    go_round
    case rel => exact ⟨k + 1, kk, by go_num, G2⟩
    case measure => simp [intOf]; omega
   by_cases p2 : 48 ≤ s[k].toNat ∧ s[k].toNat ≤ 57
   ·have d1 : decide ((s[k].toNat : Int) < 97) = true := decide_eq_true (by omega)
    have d3 : decide ((s[k].toNat : Int) < 48) = false := decide_eq_false (by omega)
    have d4 : decide ((57 : Int) < (s[k].toNat : Int)) = false := decide_eq_false (by omega)
    have d5 : ((s[k].toNat : Int) != 45) = true := by rw [bne_iff_ne]; omega
    have G2 : Hid (∀ (j : Nat) (c : UInt8), j < k + 1 → l[j]? = some c → namC c.toNat = true) := Lib.hid (fun j c hj h => by
     by_cases e : j = k
     ·subst e
      rw [hc.out] at h
      cases h
      unfold namC; exact decide_eq_true (Or.inr (Or.inl p2))
     ·exact GD.out j c (by omega) h)
    clear GD hc
    have PP := Lib.hid p2
    clear p2
    go_wp2_with fail
    go_round
    case rel => exact ⟨k + 1, kk, by go_num, G2⟩
    case measure => simp [intOf]; omega
   by_cases p3 : s[k].toNat = 45
   ·have d1 : decide ((s[k].toNat : Int) < 97) = true := decide_eq_true (by omega)
    have d3 : decide ((s[k].toNat : Int) < 48) = true := decide_eq_true (by omega)
    have d5 : ((s[k].toNat : Int) != 45) = false := by rw [bne_eq_false_iff_eq]; omega
    have G2 : Hid (∀ (j : Nat) (c : UInt8), j < k + 1 → l[j]? = some c → namC c.toNat = true) := Lib.hid (fun j c hj h => by
     by_cases e : j = k
     ·subst e
      rw [hc.out] at h
      cases h
      unfold namC; exact decide_eq_true (Or.inr (Or.inr p3))
     ·exact GD.out j c (by omega) h)
    clear GD hc
    have PP := Lib.hid p3
    clear p3
    go_wp2_with fail
    go_round
    case rel => exact ⟨k + 1, kk, by go_num, G2⟩
    case measure => simp [intOf]; omega
   have d5 : ((s[k].toNat : Int) != 45) = true := by rw [bne_iff_ne]; omega
   have nc : namC s[k].toNat = false := by unfold namC; exact decide_eq_false (by omega)
   by_cases p4 : s[k].toNat < 48
   ·have d1 : decide ((s[k].toNat : Int) < 97) = true := decide_eq_true (by omega)
    have d3 : decide ((s[k].toNat : Int) < 48) = true := decide_eq_true (by omega)
    have NB := Lib.hid (all_bad hc.out nc)
    clear nc hc
    go_wp2_with fail
    go_ret
    exact ⟨ret_bool NB.out.symm, rfl⟩
   have d3 : decide ((s[k].toNat : Int) < 48) = false := decide_eq_false (by omega)
   have d4 : decide ((57 : Int) < (s[k].toNat : Int)) = true := decide_eq_true (by omega)
   by_cases p5 : s[k].toNat < 97
   ·have d1 : decide ((s[k].toNat : Int) < 97) = true := decide_eq_true (by omega)
    have NB := Lib.hid (all_bad hc.out nc)
    clear nc hc
    go_wp2_with fail
    go_ret
    exact ⟨ret_bool NB.out.symm, rfl⟩
   have d1 : decide ((s[k].toNat : Int) < 97) = false := decide_eq_false (by omega)
   have d2 : decide ((122 : Int) < (s[k].toNat : Int)) = true := decide_eq_true (by omega)
   have NB := Lib.hid (all_bad hc.out nc)
   clear nc hc
   go_wp2_with fail
   go_ret
   exact ⟨ret_bool NB.out.symm, rfl⟩
  ·have NB := Lib.hid (AG.out (fun j c h => GD.out j c (by have := (List.getElem?_eq_some_iff.1 h).1; rw [SL'.out] at this; omega) h))
   clear GD AG
   go_wp2_with fail
   go_ret
   exact ⟨ret_bool NB.out.symm, rfl⟩
set_option maxHeartbeats 4000000 in
theorem valid_calls (x : St) (w : World) (hs : x.nm.size ≤ 9223372036854775807) :
  Calls Tryz.prog 74 #[Sv x] w fun e w' => e = .returned (.bool (valS x)) ∧ Below w.heap.size w w' := by
 obtain ⟨s, sn, sd, tn, td⟩ := x
 have AT := Lib.hid (fun W => at_calls 1 1 sn sd tn td W)
 have EA : atE 1 1 sn sd tn td = if plB sn sd tn td then 0 else 8 := by unfold atE; rw [if_neg (by decide)]
 rw [EA] at AT
 clear EA
 have VS : Hid (valS ⟨s, sn, sd, tn, td⟩ = (namB s.data.toList && plB sn sd tn td)) := Lib.hid rfl
 generalize valS ⟨s, sn, sd, tn, td⟩ = vs at *
 simp only at hs
 generalize plB sn sd tn td = pl at *
 obtain ⟨v, hv⟩ : ∃ v : V6, atV 1 1 sn sd tn td = Vv v := by
  unfold atV
  split
  ·exact ⟨⟨_, _, _, _, _, _⟩, rfl⟩
  ·exact ⟨⟨0, 0, 0, 0, 0, 0⟩, rfl⟩
 rw [hv] at AT
 clear hv
 have SL := str_len s
 have SG := Lib.hid (fun k (h : k < s.size) => str_get s k h)
 obtain ⟨l, hl⟩ : ∃ l, s.data.toList = l := ⟨_, rfl⟩
 rw [hl] at SL SG VS
 clear hl
 by_cases z : s.size < 1
 ·have NB := Lib.hid (len_bad (l := l) (.inl (by omega)))
  have d1 : decide ((s.size : Int) < 1) = true := decide_eq_true (by omega)
  have SL' := Lib.hid SL
  clear SL z
  go_enter Tryz.func74, Tryz.ntmps74
  go_wp2_with fail
  go_ret
  exact ⟨ret_bool (by rw [VS.out, NB.out]; rfl), Bal (Below.refl _ _) _⟩
 have d1 : decide ((s.size : Int) < 1) = false := decide_eq_false (by omega)
 by_cases big : 40 < s.size
 ·have NB := Lib.hid (len_bad (l := l) (.inr (by omega)))
  have d2 : decide ((40 : Int) < (s.size : Int)) = true := decide_eq_true (by omega)
  have SL' := Lib.hid SL
  clear SL z big
  go_enter Tryz.func74, Tryz.ntmps74
  go_wp2_with fail
  go_ret
  exact ⟨ret_bool (by rw [VS.out, NB.out]; rfl), Bal (Below.refl _ _) _⟩
 have d2 : decide ((40 : Int) < (s.size : Int)) = false := decide_eq_false (by omega)
 have s1 : 0 < s.size := by omega
 have s2 : s.size ≤ 40 := by omega
 have h0 := SG.out 0 s1
 have SL' := Lib.hid SL
 clear SL z big
 by_cases lo : s[0].toNat < 97
 ·have e1 : decide ((s[0].toNat : Int) < 97) = true := decide_eq_true (by omega)
  have NB := Lib.hid (head_bad h0 (by unfold lowB; exact decide_eq_false (by omega)))
  clear h0
  go_enter Tryz.func74, Tryz.ntmps74
  go_wp2_with fail
  go_ret
  exact ⟨ret_bool (by rw [VS.out, NB.out]; rfl), Bal (Below.refl _ _) _⟩
 have e1 : decide ((s[0].toNat : Int) < 97) = false := decide_eq_false (by omega)
 by_cases hi : 122 < s[0].toNat
 ·have e2 : decide ((122 : Int) < (s[0].toNat : Int)) = true := decide_eq_true (by omega)
  have NB := Lib.hid (head_bad h0 (by unfold lowB; exact decide_eq_false (by omega)))
  clear h0
  go_enter Tryz.func74, Tryz.ntmps74
  go_wp2_with fail
  go_ret
  exact ⟨ret_bool (by rw [VS.out, NB.out]; rfl), Bal (Below.refl _ _) _⟩
 have e2 : decide ((122 : Int) < (s[0].toNat : Int)) = false := decide_eq_false (by omega)
 have AG := Lib.hid (fun h => all_good (l := l) (by rw [SL'.out]; omega) (by rw [SL'.out]; omega) h0 (by unfold lowB; exact decide_eq_true (by omega)) h)
 clear h0 lo hi
 go_enter Tryz.func74, Tryz.ntmps74
 go_wp2_with fail
 go_loop [32] (fun i => ∃ k : Nat, k ≤ s.size ∧ i = .int .i64 k ∧ Hid (∀ (j : Nat) (c : UInt8), j < k → l[j]? = some c → namC c.toNat = true)) (fun i => s.size - (intOf i).toNat)
 case atStart => exact ⟨0, by omega, rfl, Lib.hid (fun j c h => by omega)⟩
 case round =>
  obtain ⟨k, hk, rfl, GD⟩ := hrel
  by_cases hlt : k < s.size
  ·have hc := Lib.hid (SG.out k hlt)
   have kk : k + 1 ≤ s.size := hlt
   have z1 : decide ((0 : Int) ≤ (k : Int)) = true := decide_eq_true (by omega)
   by_cases p1 : 97 ≤ s[k].toNat ∧ s[k].toNat ≤ 122
   ·have d1 : decide ((s[k].toNat : Int) < 97) = false := decide_eq_false (by omega)
    have d2 : decide ((122 : Int) < (s[k].toNat : Int)) = false := decide_eq_false (by omega)
    have d5 : ((s[k].toNat : Int) != 45) = true := by rw [bne_iff_ne]; omega
    have d3 : decide ((s[k].toNat : Int) < 48) = false := decide_eq_false (by omega)
    have d4 : decide ((57 : Int) < (s[k].toNat : Int)) = true := decide_eq_true (by omega)
    have G2 : Hid (∀ (j : Nat) (c : UInt8), j < k + 1 → l[j]? = some c → namC c.toNat = true) := Lib.hid (fun j c hj h => by
     by_cases e : j = k
     ·subst e
      rw [hc.out] at h
      cases h
      unfold namC; exact decide_eq_true (Or.inl p1)
     ·exact GD.out j c (by omega) h)
    clear GD hc
    have PP := Lib.hid p1
    clear p1
    go_wp2_with fail
    go_round
    case rel => exact ⟨k + 1, kk, by go_num, G2⟩
    case measure => simp [intOf]; omega
   by_cases p2 : 48 ≤ s[k].toNat ∧ s[k].toNat ≤ 57
   ·have d1 : decide ((s[k].toNat : Int) < 97) = true := decide_eq_true (by omega)
    have d3 : decide ((s[k].toNat : Int) < 48) = false := decide_eq_false (by omega)
    have d4 : decide ((57 : Int) < (s[k].toNat : Int)) = false := decide_eq_false (by omega)
    have d5 : ((s[k].toNat : Int) != 45) = true := by rw [bne_iff_ne]; omega
    have G2 : Hid (∀ (j : Nat) (c : UInt8), j < k + 1 → l[j]? = some c → namC c.toNat = true) := Lib.hid (fun j c hj h => by
     by_cases e : j = k
     ·subst e
      rw [hc.out] at h
      cases h
      unfold namC; exact decide_eq_true (Or.inr (Or.inl p2))
     ·exact GD.out j c (by omega) h)
    clear GD hc
    have PP := Lib.hid p2
    clear p2
    go_wp2_with fail
    go_round
    case rel => exact ⟨k + 1, kk, by go_num, G2⟩
    case measure => simp [intOf]; omega
   by_cases p3 : s[k].toNat = 45
   ·have d1 : decide ((s[k].toNat : Int) < 97) = true := decide_eq_true (by omega)
    have d3 : decide ((s[k].toNat : Int) < 48) = true := decide_eq_true (by omega)
    have d5 : ((s[k].toNat : Int) != 45) = false := by rw [bne_eq_false_iff_eq]; omega
    have G2 : Hid (∀ (j : Nat) (c : UInt8), j < k + 1 → l[j]? = some c → namC c.toNat = true) := Lib.hid (fun j c hj h => by
     by_cases e : j = k
     ·subst e
      rw [hc.out] at h
      cases h
      unfold namC; exact decide_eq_true (Or.inr (Or.inr p3))
     ·exact GD.out j c (by omega) h)
    clear GD hc
    have PP := Lib.hid p3
    clear p3
    go_wp2_with fail
    go_round
    case rel => exact ⟨k + 1, kk, by go_num, G2⟩
    case measure => simp [intOf]; omega
   have d5 : ((s[k].toNat : Int) != 45) = true := by rw [bne_iff_ne]; omega
   have nc : namC s[k].toNat = false := by unfold namC; exact decide_eq_false (by omega)
   by_cases p4 : s[k].toNat < 48
   ·have d1 : decide ((s[k].toNat : Int) < 97) = true := decide_eq_true (by omega)
    have d3 : decide ((s[k].toNat : Int) < 48) = true := decide_eq_true (by omega)
    have NB := Lib.hid (all_bad hc.out nc)
    clear nc hc
    go_wp2_with fail
    go_ret
    exact ⟨ret_bool (by rw [VS.out, NB.out]; rfl), Bal (Below.refl _ _) _⟩
   have d3 : decide ((s[k].toNat : Int) < 48) = false := decide_eq_false (by omega)
   have d4 : decide ((57 : Int) < (s[k].toNat : Int)) = true := decide_eq_true (by omega)
   by_cases p5 : s[k].toNat < 97
   ·have d1 : decide ((s[k].toNat : Int) < 97) = true := decide_eq_true (by omega)
    have NB := Lib.hid (all_bad hc.out nc)
    clear nc hc
    go_wp2_with fail
    go_ret
    exact ⟨ret_bool (by rw [VS.out, NB.out]; rfl), Bal (Below.refl _ _) _⟩
   have d1 : decide ((s[k].toNat : Int) < 97) = false := decide_eq_false (by omega)
   have d2 : decide ((122 : Int) < (s[k].toNat : Int)) = true := decide_eq_true (by omega)
   have NB := Lib.hid (all_bad hc.out nc)
   clear nc hc
   go_wp2_with fail
   go_ret
   exact ⟨ret_bool (by rw [VS.out, NB.out]; rfl), Bal (Below.refl _ _) _⟩
  ·have NB := Lib.hid (AG.out (fun j c h => GD.out j c (by have := (List.getElem?_eq_some_iff.1 h).1; rw [SL'.out] at this; omega) h))
   clear GD AG
   have BW := Lib.hid (Bal (Below.refl w.heap.size w) (.cells #[.string s, .int .i64 sn, .int .i64 sd, .int .i64 tn, .int .i64 td] 69))
   cases pl
   ·go_wp2_with fail
    refine (AT.out _).mono ?_
    rintro e w1 ⟨rfl, hb⟩
    replace BW := Lib.hid (Bgo BW.out hb)
    clear hb
    simp only [Bool.false_eq_true, if_false]
    go_wp2_with fail
    go_ret
    exact ⟨ret_bool (by rw [VS.out, Bool.and_false]), Bal BW.out _⟩
   ·go_wp2_with fail
    refine (AT.out _).mono ?_
    rintro e w1 ⟨rfl, hb⟩
    replace BW := Lib.hid (Bgo BW.out hb)
    clear hb
    simp only [if_true]
    go_wp2_with fail
    go_ret
    exact ⟨ret_bool (by rw [VS.out, NB.out]; rfl), Bal BW.out _⟩
end Go.Proofs.YtfangplfbbgphaaGreatDoor
