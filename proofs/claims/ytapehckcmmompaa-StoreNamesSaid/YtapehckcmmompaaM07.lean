/- Several texts in one. -/
import Derived.Outline
import Derived.BigGuardPart
import Derived.StillTail
import Derived.Deep.RegionHeld3
import Derived.Test.YtapehckcmmompaaM00
namespace Go.Proofs.Ytapehckcmmompaa
open Go.ChangeShapes Go.WideShapes Go.ChangeAt Go.RowKit
set_option linter.unusedVariables false
attribute [local go_sem ↓] Go.wp_at_zero Go.wp_at_succ
def digS (d c : Nat) : Nat := (257 * d + c + 1) % 1000000007
def digL (l : List Nat) : Nat := l.foldl digS 0
theorem digS_lt (d c : Nat) : digS d c < 1000000007 := Nat.mod_lt _ (by decide)
theorem digL_lt (l : List Nat) : digL l < 1000000007 := by
 unfold digL
 rcases List.eq_nil_or_concat l with rfl | ⟨m, x, rfl⟩
 ·decide
 ·rw [List.concat_eq_append, List.foldl_append]
  exact digS_lt _ _
theorem dig_take {l : List Nat} {k x : Nat} (h : l[k]? = some x) : digL (l.take (k + 1)) = digS (digL (l.take k)) x := by
 obtain ⟨h1, rfl⟩ := List.getElem?_eq_some_iff.1 h
 unfold digL
 rw [List.take_succ_eq_append_getElem h1, List.foldl_append]
 rfl
theorem int_nat (d x : Nat) : ((257 * (d : Int) + (x : Int) + 1) % 1000000007) = ((digS d x : Nat) : Int) := by unfold digS; omega
theorem digest_calls (A : Option Addr) (c B : Nat) (l : List Nat) (w : World) (hn : l.length ≤ c) (hc : c ≤ 9223372036854775807) (hs : RBA B w A l) :
  Calls Try.prog 18 #[.slice A l.length c] w fun e w' => e = .returned (.int .i64 (digL l : Nat)) ∧ w = w' := by
 have HS := Lib.hid hs
 clear hs
 go_enter Try.func18, Try.ntmps18
 go_wp2_with fail
 go_loop [3, 8] (fun d i => ∃ k n : Nat, k ≤ l.length ∧ i = .int .i64 k ∧ d = .int .i64 n ∧ n < 1000000007 ∧ Hid (n = digL (l.take k))) (fun _ i => l.length - (intOf i).toNat)
 case atStart => exact ⟨0, 0, by omega, rfl, rfl, by decide, Lib.hid (by simp [digL])⟩
 case round =>
  obtain ⟨k, n, hk, rfl, rfl, hn2, HN⟩ := hrel
  by_cases hlt : k < l.length
  ·obtain ⟨x, hx⟩ := get_some hlt
   obtain ⟨b, off, rfl, hb, hcell, x256⟩ := HS.out.at_ hx
   have R : Hid (digS n x = digL (l.take (k + 1))) := Lib.hid (by rw [dig_take hx, ← HN.out])
   have IN := Lib.hid (int_nat n x)
   have lt2 := digS_lt n x
   clear hx HN
   go_wp2_with fail
   go_round
   case rel => exact ⟨k + 1, digS n x, by omega, by go_num, by rw [← IN.out], lt2, R⟩
   case measure => simp [intOf]; omega
  ·obtain rfl : k = l.length := by omega
   go_wp2_with fail
   go_ret
   exact ⟨ret_int (by rw [HN.out, List.take_length]), rfl⟩
def ned (n d : Int) : Int := (n + 8 * d - 1) / (8 * d)
theorem ned_bd {n d : Int} (h1 : 0 ≤ n) (h2 : n ≤ 300) (h3 : 1 ≤ d) (h4 : d ≤ 8) : 0 ≤ ned n d ∧ ned n d ≤ 38 := by
 unfold ned
 have : d = 1 ∨ d = 2 ∨ d = 3 ∨ d = 4 ∨ d = 5 ∨ d = 6 ∨ d = 7 ∨ d = 8 := by omega
 rcases this with rfl | rfl | rfl | rfl | rfl | rfl | rfl | rfl <;> omega
theorem needed_calls (n d : Int) (w : World) (h1 : 0 ≤ n) (h2 : n ≤ 1000) (h3 : 1 ≤ d) (h4 : d ≤ 8) :
  Calls Try.prog 45 #[.int .i64 n, .int .i64 d] w fun e w' => e = .returned (.int .i64 (ned n d)) ∧ w = w' := by
 have HN : Hid (ned n d = (n + 8 * d - 1) / (8 * d)) := Lib.hid rfl
 go_enter Try.func45, Try.ntmps45
 go_wp2_with fail
 go_ret
 exact ⟨ret_int (by rw [HN.out]), rfl⟩
theorem refNeeded_calls (n d : Int) (w : World) (h1 : 0 ≤ n) (h2 : n ≤ 1000) (h3 : 1 ≤ d) (h4 : d ≤ 8) :
  Calls Try.prog 49 #[.int .i64 n, .int .i64 d] w fun e w' => e = .returned (.int .i64 (ned n d)) ∧ w = w' := by
 have HN : Hid (ned n d = (n + 8 * d - 1) / (8 * d)) := Lib.hid rfl
 go_enter Try.func49, Try.ntmps49
 go_wp2_with fail
 go_ret
 exact ⟨ret_int (by rw [HN.out]), rfl⟩
def szB (d p : Int) : Bool := decide (1 ≤ d) && (decide (d ≤ 8) && (decide (0 ≤ p) && decide (p ≤ 4)))
theorem szB_iff {d p : Int} : szB d p = true ↔ (1 ≤ d ∧ d ≤ 8) ∧ 0 ≤ p ∧ p ≤ 4 := by simp [szB]; omega
theorem isSize_calls (d p : Int) (w : World) : Calls Try.prog 41 #[.int .i64 d, .int .i64 p] w fun e w' => e = .returned (.bool (szB d p)) ∧ w = w' := by
 generalize hz : szB d p = z
 have HZ := Lib.hid hz
 clear hz
 go_enter Try.func41, Try.ntmps41
 go_wp2_with fail
 all_goals
  go_ret
  exact ⟨ret_bool (by rw [← HZ.out, Bool.eq_iff_iff, szB_iff]; simp; omega), rfl⟩
def lowB (c : Nat) : Bool := decide (97 ≤ c ∧ c ≤ 122)
def namC (c : Nat) : Bool := decide ((97 ≤ c ∧ c ≤ 122) ∨ (48 ≤ c ∧ c ≤ 57) ∨ c = 45)
def namB (l : List UInt8) : Bool := decide (1 ≤ l.length ∧ l.length ≤ 40) && (lowB (l.headD 0).toNat && l.all fun c => namC c.toNat)
theorem str_len (s : ByteArray) : s.data.toList.length = s.size := by rw [Array.length_toList]; rfl
theorem str_get (s : ByteArray) (k : Nat) (h : k < s.size) : s.data.toList[k]? = some s[k] := by
 have : k < s.data.toList.length := by rw [Array.length_toList]; exact h
 rw [List.getElem?_eq_getElem this]
 rfl
theorem all_bad {l : List UInt8} {k : Nat} {c : UInt8} (h : l[k]? = some c) (hc : namC c.toNat = false) : namB l = false := by
 unfold namB
 have : (l.all fun c => namC c.toNat) = false := by
  rw [List.all_eq_false]
  exact ⟨c, List.mem_of_getElem? h, by rw [hc]; simp⟩
 rw [this, Bool.and_false, Bool.and_false]
theorem all_good {l : List UInt8} (h1 : 1 ≤ l.length) (h2 : l.length ≤ 40) {c0 : UInt8} (h0 : l[0]? = some c0) (hl : lowB c0.toNat = true) (h : ∀ (k : Nat) (c : UInt8), l[k]? = some c → namC c.toNat = true) : namB l = true := by
 unfold namB
 have e : l.headD 0 = c0 := by cases l with | nil => simp at h0 | cons x r => simp at h0; simp [h0]
 rw [e, hl, decide_eq_true ⟨h1, h2⟩, Bool.true_and, Bool.true_and, List.all_eq_true]
 intro c hc
 obtain ⟨k, hk⟩ := List.mem_iff_getElem?.1 hc
 exact h k c hk
theorem head_bad {l : List UInt8} {c0 : UInt8} (h0 : l[0]? = some c0) (hl : lowB c0.toNat = false) : namB l = false := by
 unfold namB
 have e : l.headD 0 = c0 := by cases l with | nil => simp at h0 | cons x r => simp at h0; simp [h0]
 rw [e, hl, Bool.false_and, Bool.and_false]
theorem len_bad {l : List UInt8} (h : l.length < 1 ∨ 40 < l.length) : namB l = false := by
 unfold namB
 rw [decide_eq_false (by omega), Bool.false_and]
end Go.Proofs.Ytapehckcmmompaa
namespace Go.Proofs.Ytapehckcmmompaa
open Go.ChangeShapes Go.WideShapes Go.ChangeAt Go.RowKit
set_option linter.unusedVariables false
set_option maxRecDepth 100000
attribute [local go_sem ↓] Go.wp_at_zero Go.wp_at_succ
set_option maxHeartbeats 4000000 in
theorem isName_calls (s : ByteArray) (w : World) (hs : s.size ≤ 9223372036854775807) :
  Calls Try.prog 43 #[.string s] w fun e w' => e = .returned (.bool (namB s.data.toList)) ∧ w = w' := by
 have SL := str_len s
 have SG := Lib.hid (fun k (h : k < s.size) => str_get s k h)
 obtain ⟨l, hl⟩ : ∃ l, s.data.toList = l := ⟨_, rfl⟩
 rw [hl] at SL SG ⊢
 clear hl
 by_cases z : s.size < 1
 ·have NB := Lib.hid (len_bad (l := l) (.inl (by omega)))
  have d1 : decide ((s.size : Int) < 1) = true := decide_eq_true (by omega)
  have SL' := Lib.hid SL
  clear SL z
  go_enter Try.func43, Try.ntmps43
  go_wp2_with fail
  go_ret
  exact ⟨ret_bool NB.out.symm, rfl⟩
 have d1 : decide ((s.size : Int) < 1) = false := decide_eq_false (by omega)
 by_cases big : 40 < s.size
 ·have NB := Lib.hid (len_bad (l := l) (.inr (by omega)))
  have d2 : decide ((40 : Int) < (s.size : Int)) = true := decide_eq_true (by omega)
  have SL' := Lib.hid SL
  clear SL z big
  go_enter Try.func43, Try.ntmps43
  go_wp2_with fail
  go_ret
  exact ⟨ret_bool NB.out.symm, rfl⟩
 have d2 : decide ((40 : Int) < (s.size : Int)) = false := decide_eq_false (by omega)
 have s1 : 0 < s.size := by omega
 have s2 : s.size ≤ 40 := by omega
 have h0 := SG.out 0 s1
 have SL' := Lib.hid SL
 clear SL z big
 by_cases lo : s[0].toNat < 97
 ·have e1 : decide ((s[0].toNat : Int) < 97) = true := decide_eq_true (by omega)
  have NB := Lib.hid (head_bad h0 (by unfold lowB; exact decide_eq_false (by omega)))
  clear h0
  go_enter Try.func43, Try.ntmps43
  go_wp2_with fail
  go_ret
  exact ⟨ret_bool NB.out.symm, rfl⟩
 have e1 : decide ((s[0].toNat : Int) < 97) = false := decide_eq_false (by omega)
 by_cases hi : 122 < s[0].toNat
 ·have e2 : decide ((122 : Int) < (s[0].toNat : Int)) = true := decide_eq_true (by omega)
  have NB := Lib.hid (head_bad h0 (by unfold lowB; exact decide_eq_false (by omega)))
  clear h0
  go_enter Try.func43, Try.ntmps43
  go_wp2_with fail
  go_ret
  exact ⟨ret_bool NB.out.symm, rfl⟩
 have e2 : decide ((122 : Int) < (s[0].toNat : Int)) = false := decide_eq_false (by omega)
 have AG := Lib.hid (fun h => all_good (l := l) (by rw [SL'.out]; omega) (by rw [SL'.out]; omega) h0 (by unfold lowB; exact decide_eq_true (by omega)) h)
 clear h0 lo hi
 go_enter Try.func43, Try.ntmps43
 go_wp2_with fail
 go_loop [3] (fun i => ∃ k : Nat, k ≤ s.size ∧ i = .int .i64 k ∧ Hid (∀ (j : Nat) (c : UInt8), j < k → l[j]? = some c → namC c.toNat = true)) (fun i => s.size - (intOf i).toNat)
 case atStart => exact ⟨0, by omega, rfl, Lib.hid (fun j c h => by omega)⟩
 case round =>
  obtain ⟨k, hk, rfl, GD⟩ := hrel
  by_cases hlt : k < s.size
  ·have hc := Lib.hid (SG.out k hlt)
   have kk : k + 1 ≤ s.size := hlt
   have z1 : decide ((0 : Int) ≤ (k : Int)) = true := decide_eq_true (by omega)
   by_cases p1 : 97 ≤ s[k].toNat ∧ s[k].toNat ≤ 122
   ·have d1 : decide ((s[k].toNat : Int) < 97) = false := decide_eq_false (by omega)
    have d2 : decide ((122 : Int) < (s[k].toNat : Int)) = false := decide_eq_false (by omega)
    have d5 : ((s[k].toNat : Int) != 45) = true := by rw [bne_iff_ne]; omega
    have d3 : decide ((s[k].toNat : Int) < 48) = false := decide_eq_false (by omega)
    have d4 : decide ((57 : Int) < (s[k].toNat : Int)) = true := decide_eq_true (by omega)
    have G2 : Hid (∀ (j : Nat) (c : UInt8), j < k + 1 → l[j]? = some c → namC c.toNat = true) := Lib.hid (fun j c hj h => by
     by_cases e : j = k
     ·subst e
      rw [hc.out] at h
      cases h
      unfold namC; exact decide_eq_true (Or.inl p1)
     ·exact GD.out j c (by omega) h)
    clear GD hc
    have PP := Lib.hid p1
    clear p1
    go_wp2_with fail
    go_round
    case rel => exact ⟨k + 1, kk, by go_num, G2⟩
    case measure => simp [intOf]; omega
   by_cases p2 : 48 ≤ s[k].toNat ∧ s[k].toNat ≤ 57
   ·have d1 : decide ((s[k].toNat : Int) < 97) = true := decide_eq_true (by omega)
    have d3 : decide ((s[k].toNat : Int) < 48) = false := decide_eq_false (by omega)
    have d4 : decide ((57 : Int) < (s[k].toNat : Int)) = false := decide_eq_false (by omega)
    have d5 : ((s[k].toNat : Int) != 45) = true := by rw [bne_iff_ne]; omega
    have G2 : Hid (∀ (j : Nat) (c : UInt8), j < k + 1 → l[j]? = some c → namC c.toNat = true) := Lib.hid (fun j c hj h => by
     by_cases e : j = k
     ·subst e
      rw [hc.out] at h
      cases h
      unfold namC; exact decide_eq_true (Or.inr (Or.inl p2))
     ·exact GD.out j c (by omega) h)
    clear GD hc
    have PP := Lib.hid p2
    clear p2
    go_wp2_with fail
    go_round
    case rel => exact ⟨k + 1, kk, by go_num, G2⟩
    case measure => simp [intOf]; omega
   by_cases p3 : s[k].toNat = 45
   ·have d1 : decide ((s[k].toNat : Int) < 97) = true := decide_eq_true (by omega)
    have d3 : decide ((s[k].toNat : Int) < 48) = true := decide_eq_true (by omega)
    have d5 : ((s[k].toNat : Int) != 45) = false := by rw [bne_eq_false_iff_eq]; omega
    have G2 : Hid (∀ (j : Nat) (c : UInt8), j < k + 1 → l[j]? = some c → namC c.toNat = true) := Lib.hid (fun j c hj h => by
     by_cases e : j = k
     ·subst e
      rw [hc.out] at h
      cases h
      unfold namC; exact decide_eq_true (Or.inr (Or.inr p3))
     ·exact GD.out j c (by omega) h)
    clear GD hc
    have PP := Lib.hid p3
    clear p3
    go_wp2_with fail
    go_round
    case rel => exact ⟨k + 1, kk, by go_num, G2⟩
    case measure => simp [intOf]; omega
   have d5 : ((s[k].toNat : Int) != 45) = true := by rw [bne_iff_ne]; omega
   have nc : namC s[k].toNat = false := by unfold namC; exact decide_eq_false (by omega)
   by_cases p4 : s[k].toNat < 48
   ·have d1 : decide ((s[k].toNat : Int) < 97) = true := decide_eq_true (by omega)
    have d3 : decide ((s[k].toNat : Int) < 48) = true := decide_eq_true (by omega)
    have NB := Lib.hid (all_bad hc.out nc)
    clear nc hc
    go_wp2_with fail
    go_ret
    exact ⟨ret_bool NB.out.symm, rfl⟩
   have d3 : decide ((s[k].toNat : Int) < 48) = false := decide_eq_false (by omega)
   have d4 : decide ((57 : Int) < (s[k].toNat : Int)) = true := decide_eq_true (by omega)
   by_cases p5 : s[k].toNat < 97
   ·have d1 : decide ((s[k].toNat : Int) < 97) = true := decide_eq_true (by omega)
    have NB := Lib.hid (all_bad hc.out nc)
    clear nc hc
    go_wp2_with fail
    go_ret
    exact ⟨ret_bool NB.out.symm, rfl⟩
   have d1 : decide ((s[k].toNat : Int) < 97) = false := decide_eq_false (by omega)
   have d2 : decide ((122 : Int) < (s[k].toNat : Int)) = true := decide_eq_true (by omega)
   have NB := Lib.hid (all_bad hc.out nc)
   clear nc hc
   go_wp2_with fail
   go_ret
   exact ⟨ret_bool NB.out.symm, rfl⟩
  ·have NB := Lib.hid (AG.out (fun j c h => GD.out j c (by have := (List.getElem?_eq_some_iff.1 h).1; rw [SL'.out] at this; omega) h))
   clear GD AG
   go_wp2_with fail
   go_ret
   exact ⟨ret_bool NB.out.symm, rfl⟩
set_option maxHeartbeats 4000000 in
theorem refName_calls (s : ByteArray) (w : World) (hs : s.size ≤ 9223372036854775807) :
  Calls Try.prog 47 #[.string s] w fun e w' => e = .returned (.bool (namB s.data.toList)) ∧ w = w' := by
 have SL := str_len s
 have SG := Lib.hid (fun k (h : k < s.size) => str_get s k h)
 obtain ⟨l, hl⟩ : ∃ l, s.data.toList = l := ⟨_, rfl⟩
 rw [hl] at SL SG ⊢
 clear hl
 by_cases z : s.size < 1
 ·have NB := Lib.hid (len_bad (l := l) (.inl (by omega)))
  have d1 : decide ((s.size : Int) < 1) = true := decide_eq_true (by omega)
  have SL' := Lib.hid SL
  clear SL z
  go_enter Try.func47, Try.ntmps47
  go_wp2_with fail
  go_ret
  exact ⟨ret_bool NB.out.symm, rfl⟩
 have d1 : decide ((s.size : Int) < 1) = false := decide_eq_false (by omega)
 by_cases big : 40 < s.size
 ·have NB := Lib.hid (len_bad (l := l) (.inr (by omega)))
  have d2 : decide ((40 : Int) < (s.size : Int)) = true := decide_eq_true (by omega)
  have SL' := Lib.hid SL
  clear SL z big
  go_enter Try.func47, Try.ntmps47
  go_wp2_with fail
  go_ret
  exact ⟨ret_bool NB.out.symm, rfl⟩
 have d2 : decide ((40 : Int) < (s.size : Int)) = false := decide_eq_false (by omega)
 have s1 : 0 < s.size := by omega
 have s2 : s.size ≤ 40 := by omega
 have h0 := SG.out 0 s1
 have SL' := Lib.hid SL
 clear SL z big
 by_cases lo : s[0].toNat < 97
 ·have e1 : decide ((s[0].toNat : Int) < 97) = true := decide_eq_true (by omega)
  have NB := Lib.hid (head_bad h0 (by unfold lowB; exact decide_eq_false (by omega)))
  clear h0
  go_enter Try.func47, Try.ntmps47
  go_wp2_with fail
  go_ret
  exact ⟨ret_bool NB.out.symm, rfl⟩
 have e1 : decide ((s[0].toNat : Int) < 97) = false := decide_eq_false (by omega)
 by_cases hi : 122 < s[0].toNat
 ·have e2 : decide ((122 : Int) < (s[0].toNat : Int)) = true := decide_eq_true (by omega)
  have NB := Lib.hid (head_bad h0 (by unfold lowB; exact decide_eq_false (by omega)))
  clear h0
  go_enter Try.func47, Try.ntmps47
  go_wp2_with fail
  go_ret
  exact ⟨ret_bool NB.out.symm, rfl⟩
 have e2 : decide ((122 : Int) < (s[0].toNat : Int)) = false := decide_eq_false (by omega)
 have AG := Lib.hid (fun h => all_good (l := l) (by rw [SL'.out]; omega) (by rw [SL'.out]; omega) h0 (by unfold lowB; exact decide_eq_true (by omega)) h)
 clear h0 lo hi
 go_enter Try.func47, Try.ntmps47
 go_wp2_with fail
 go_loop [3] (fun i => ∃ k : Nat, k ≤ s.size ∧ i = .int .i64 k ∧ Hid (∀ (j : Nat) (c : UInt8), j < k → l[j]? = some c → namC c.toNat = true)) (fun i => s.size - (intOf i).toNat)
 case atStart => exact ⟨0, by omega, rfl, Lib.hid (fun j c h => by omega)⟩
 case round =>
  obtain ⟨k, hk, rfl, GD⟩ := hrel
  by_cases hlt : k < s.size
  ·have hc := Lib.hid (SG.out k hlt)
   have kk : k + 1 ≤ s.size := hlt
   have z1 : decide ((0 : Int) ≤ (k : Int)) = true := decide_eq_true (by omega)
   by_cases p1 : 97 ≤ s[k].toNat ∧ s[k].toNat ≤ 122
   ·have d1 : decide ((s[k].toNat : Int) < 97) = false := decide_eq_false (by omega)
    have d2 : decide ((122 : Int) < (s[k].toNat : Int)) = false := decide_eq_false (by omega)
    have d5 : ((s[k].toNat : Int) != 45) = true := by rw [bne_iff_ne]; omega
    have d3 : decide ((s[k].toNat : Int) < 48) = false := decide_eq_false (by omega)
    have d4 : decide ((57 : Int) < (s[k].toNat : Int)) = true := decide_eq_true (by omega)
    have G2 : Hid (∀ (j : Nat) (c : UInt8), j < k + 1 → l[j]? = some c → namC c.toNat = true) := Lib.hid (fun j c hj h => by
     by_cases e : j = k
     ·subst e
      rw [hc.out] at h
      cases h
      unfold namC; exact decide_eq_true (Or.inl p1)
     ·exact GD.out j c (by omega) h)
    clear GD hc
    have PP := Lib.hid p1
    clear p1
    go_wp2_with fail
    go_round
    case rel => exact ⟨k + 1, kk, by go_num, G2⟩
    case measure => simp [intOf]; omega
   by_cases p2 : 48 ≤ s[k].toNat ∧ s[k].toNat ≤ 57
   ·have d1 : decide ((s[k].toNat : Int) < 97) = true := decide_eq_true (by omega)
    have d3 : decide ((s[k].toNat : Int) < 48) = false := decide_eq_false (by omega)
    have d4 : decide ((57 : Int) < (s[k].toNat : Int)) = false := decide_eq_false (by omega)
    have d5 : ((s[k].toNat : Int) != 45) = true := by rw [bne_iff_ne]; omega
    have G2 : Hid (∀ (j : Nat) (c : UInt8), j < k + 1 → l[j]? = some c → namC c.toNat = true) := Lib.hid (fun j c hj h => by
     by_cases e : j = k
     ·subst e
      rw [hc.out] at h
      cases h
      unfold namC; exact decide_eq_true (Or.inr (Or.inl p2))
     ·exact GD.out j c (by omega) h)
    clear GD hc
    have PP := Lib.hid p2
    clear p2
    go_wp2_with fail
    go_round
    case rel => exact ⟨k + 1, kk, by go_num, G2⟩
    case measure => simp [intOf]; omega
   by_cases p3 : s[k].toNat = 45
   ·have d1 : decide ((s[k].toNat : Int) < 97) = true := decide_eq_true (by omega)
    have d3 : decide ((s[k].toNat : Int) < 48) = true := decide_eq_true (by omega)
    have d5 : ((s[k].toNat : Int) != 45) = false := by rw [bne_eq_false_iff_eq]; omega
    have G2 : Hid (∀ (j : Nat) (c : UInt8), j < k + 1 → l[j]? = some c → namC c.toNat = true) := Lib.hid (fun j c hj h => by
     by_cases e : j = k
     ·subst e
      rw [hc.out] at h
      cases h
      unfold namC; exact decide_eq_true (Or.inr (Or.inr p3))
     ·exact GD.out j c (by omega) h)
    clear GD hc
    have PP := Lib.hid p3
    clear p3
    go_wp2_with fail
    go_round
    case rel => exact ⟨k + 1, kk, by go_num, G2⟩
    case measure => simp [intOf]; omega
   have d5 : ((s[k].toNat : Int) != 45) = true := by rw [bne_iff_ne]; omega
   have nc : namC s[k].toNat = false := by unfold namC; exact decide_eq_false (by omega)
   by_cases p4 : s[k].toNat < 48
   ·have d1 : decide ((s[k].toNat : Int) < 97) = true := decide_eq_true (by omega)
    have d3 : decide ((s[k].toNat : Int) < 48) = true := decide_eq_true (by omega)
    have NB := Lib.hid (all_bad hc.out nc)
    clear nc hc
    go_wp2_with fail
    go_ret
    exact ⟨ret_bool NB.out.symm, rfl⟩
   have d3 : decide ((s[k].toNat : Int) < 48) = false := decide_eq_false (by omega)
   have d4 : decide ((57 : Int) < (s[k].toNat : Int)) = true := decide_eq_true (by omega)
   by_cases p5 : s[k].toNat < 97
   ·have d1 : decide ((s[k].toNat : Int) < 97) = true := decide_eq_true (by omega)
    have NB := Lib.hid (all_bad hc.out nc)
    clear nc hc
    go_wp2_with fail
    go_ret
    exact ⟨ret_bool NB.out.symm, rfl⟩
   have d1 : decide ((s[k].toNat : Int) < 97) = false := decide_eq_false (by omega)
   have d2 : decide ((122 : Int) < (s[k].toNat : Int)) = true := decide_eq_true (by omega)
   have NB := Lib.hid (all_bad hc.out nc)
   clear nc hc
   go_wp2_with fail
   go_ret
   exact ⟨ret_bool NB.out.symm, rfl⟩
  ·have NB := Lib.hid (AG.out (fun j c h => GD.out j c (by have := (List.getElem?_eq_some_iff.1 h).1; rw [SL'.out] at this; omega) h))
   clear GD AG
   go_wp2_with fail
   go_ret
   exact ⟨ret_bool NB.out.symm, rfl⟩
end Go.Proofs.Ytapehckcmmompaa
namespace Go.Proofs.Ytapehckcmmompaa
open Go.ChangeShapes Go.WideShapes Go.ChangeAt Go.RowKit
set_option linter.unusedVariables false
set_option maxRecDepth 100000
attribute [local go_sem ↓] Go.wp_at_zero Go.wp_at_succ
structure Ob where
 name : ByteArray
 size : Int
 from_ : Int
 many : Int
 dig : Int
abbrev obL (o : Ob) : List Value := [.string o.name, .int .i64 o.size, .int .i64 o.from_, .int .i64 o.many, .int .i64 o.dig]
abbrev obV (o : Ob) : Value := .agg #[.string o.name, .int .i64 o.size, .int .i64 o.from_, .int .i64 o.many, .int .i64 o.dig]
def RO (B : Nat) (w : World) (A : Option Addr) (os : List Ob) : Prop :=
 ∀ (i : Nat) (o : Ob), os[i]? = some o → ∃ b off, A = some ⟨b, off, none⟩ ∧ B ≤ b ∧ b < w.heap.size ∧ ∀ (j : Nat) (v : Value), (obL o)[j]? = some v → w.cell? ⟨b, off + i * 5 + j, none⟩ = some v
theorem RO.next {B : Nat} {w w' : World} {A : Option Addr} {os : List Ob} (hb : Below w.heap.size w w') (h : RO B w A os) : RO B w' A os := fun i o ho => by
 obtain ⟨b, off, e, h1, h2, h3⟩ := h i o ho
 exact ⟨b, off, e, h1, Nat.lt_of_lt_of_le h2 hb.size, fun j v hv => (hb.cell h2).trans (h3 j v hv)⟩
theorem RO.mono {B B' : Nat} {w : World} {A : Option Addr} {os : List Ob} (h : RO B w A os) (hB : B' ≤ B) : RO B' w A os := fun i o ho => by
 obtain ⟨b, off, e, h1, h2, h3⟩ := h i o ho
 exact ⟨b, off, e, by omega, h2, h3⟩
theorem RO.take_ {B : Nat} {w : World} {A : Option Addr} {os : List Ob} (h : RO B w A os) (k : Nat) : RO B w A (os.take k) := fun i o ho => by
 rw [List.getElem?_take] at ho
 split at ho
 ·exact h i o ho
 ·cases ho
theorem RO.at_ {B : Nat} {w : World} {A : Option Addr} {os : List Ob} (h : RO B w A os) {i : Nat} {o : Ob} (hi : os[i]? = some o) :
  ∃ b off, A = some ⟨b, off, none⟩ ∧ b < w.heap.size ∧ w.cell? ⟨b, off + i * 5, none⟩ = some (.string o.name) ∧ w.cell? ⟨b, off + i * 5 + 1, none⟩ = some (.int .i64 o.size) ∧ w.cell? ⟨b, off + i * 5 + 2, none⟩ = some (.int .i64 o.from_) ∧ w.cell? ⟨b, off + i * 5 + 3, none⟩ = some (.int .i64 o.many) ∧ w.cell? ⟨b, off + i * 5 + 4, none⟩ = some (.int .i64 o.dig) := by
 obtain ⟨b, off, e, _, h2, h3⟩ := h i o hi
 exact ⟨b, off, e, h2, h3 0 _ rfl, h3 1 _ rfl, h3 2 _ rfl, h3 3 _ rfl, h3 4 _ rfl⟩
def nmE (o : Ob) (l : List UInt8) : Bool := o.name.toList == l
def findL (os : List Ob) (l : List UInt8) : Int := match os.findIdx? (fun o => nmE o l) with | some i => (i : Int) | none => -1
theorem findL_at {os : List Ob} {l : List UInt8} {k : Nat} {o : Ob} (h : os[k]? = some o) (hk : nmE o l = true) (hn : ∀ (j : Nat) (o' : Ob), j < k → os[j]? = some o' → nmE o' l = false) : findL os l = k := by
 unfold findL
 obtain ⟨h1, rfl⟩ := List.getElem?_eq_some_iff.1 h
 have : os.findIdx? (fun o => nmE o l) = some k := by
  rw [List.findIdx?_eq_some_iff_getElem]
  exact ⟨h1, hk, fun j hj => by rw [hn j _ hj (List.getElem?_eq_getElem (by omega))]; simp⟩
 rw [this]
theorem findL_none {os : List Ob} {l : List UInt8} (hn : ∀ (j : Nat) (o' : Ob), os[j]? = some o' → nmE o' l = false) : findL os l = -1 := by
 unfold findL
 have : os.findIdx? (fun o => nmE o l) = none := by
  rw [List.findIdx?_eq_none_iff]
  intro o ho
  obtain ⟨j, hj⟩ := List.mem_iff_getElem?.1 ho
  rw [hn j o hj]
 rw [this]
set_option maxHeartbeats 4000000 in
theorem oFind_calls (A : Option Addr) (c B : Nat) (os : List Ob) (s : ByteArray) (w : World) (hn : os.length ≤ c) (hc : c ≤ 9223372036854775807) (hs : RO B w A os) :
  Calls Try.prog 44 #[.slice A os.length c, .string s] w fun e w' => e = .returned (.int .i64 (findL os s.toList)) ∧ Below w.heap.size w w' := by
 have HS := Lib.hid hs
 have NN := Lib.hid (Below.refl w.heap.size w)
 clear hs
 go_enter Try.func44, Try.ntmps44
 go_wp2_with fail
 go_loopw [9] (fun i wr => ∃ k : Nat, k ≤ os.length ∧ i = .int .i64 k ∧ Hid (Below w.heap.size w wr) ∧ Hid (∀ (j : Nat) (o' : Ob), j < k → os[j]? = some o' → nmE o' s.toList = false)) (fun i _ => os.length - (intOf i).toNat)
 case atStart => exact ⟨0, by omega, rfl, NN, Lib.hid (fun j o' h => by omega)⟩
 case round =>
  clear NN
  obtain ⟨k, hk, rfl, NN, GD⟩ := hrel
  by_cases hlt : k < os.length
  ·obtain ⟨o, ho⟩ := get_some hlt
   obtain ⟨b, off, rfl, hb, c0, c1, c2, c3, c4⟩ := (HS.out.next NN.out).at_ ho
   have HO := Lib.hid ho
   have OB := Lib.hid (Bal NN.out (.cells (obL o).toArray 50))
   clear ho
   by_cases e : nmE o s.toList = true
   ·have e1 : (o.name.toList == s.toList) = true := e
    have F := Lib.hid (findL_at HO.out e GD.out)
    clear e GD
    go_wp2_with fail
    go_ret
    exact ⟨ret_int F.out.symm, OB.out⟩
   ·have e1 : (o.name.toList == s.toList) = false := by simpa [nmE] using e
    have G2 : Hid (∀ (j : Nat) (o' : Ob), j < k + 1 → os[j]? = some o' → nmE o' s.toList = false) := Lib.hid (fun j o' hj h => by
     by_cases x : j = k
     ·subst x
      rw [HO.out] at h
      cases h; exact e1
     ·exact GD.out j o' (by omega) h)
    have kk : k + 1 ≤ os.length := hlt
    clear e GD
    go_wp2_with fail
    go_roundw
    case rel => exact ⟨k + 1, kk, by go_num, OB, G2⟩
    case measure => simp [intOf]; omega
  ·obtain rfl : k = os.length := by omega
   have F := Lib.hid (findL_none (fun j o' h => GD.out j o' (get_lt h) h))
   clear GD
   go_wp2_with fail
   go_ret
   exact ⟨ret_int F.out.symm, NN.out⟩
abbrev Tv (d p : Int) (v u : Value) : Value := .agg #[.int .i64 d, .int .i64 p, v, u]
set_option maxHeartbeats 4000000 in
theorem index_calls (d p : Int) (dv : Value) (A : Option Addr) (c B : Nat) (os : List Ob) (s : ByteArray) (w : World) (hn : os.length ≤ c) (hc : c ≤ 9223372036854775807) (hs : RO B w A os) :
  Calls Try.prog 48 #[Tv d p dv (.slice A os.length c), .string s] w fun e w' => e = .returned (.int .i64 (findL os s.toList)) ∧ Below w.heap.size w w' := by
 have HS := Lib.hid (hs.next (Bal (Below.refl w.heap.size w) (.cells #[.int .i64 d, .int .i64 p, dv, .slice A os.length c] 25)))
 have NN := Lib.hid (Bal (Below.refl w.heap.size w) (.cells #[.int .i64 d, .int .i64 p, dv, .slice A os.length c] 25))
 have K := Lib.hid (blk_new w (.cells #[.int .i64 d, .int .i64 p, dv, .slice A os.length c] 25))
 clear hs
 go_enter Try.func48, Try.ntmps48
 go_wp2_with fail
 generalize w.alloc (.cells #[.int .i64 d, .int .i64 p, dv, .slice A os.length c] 25) = W0 at *
 have k3 := blk_cell K.out 3 _ rfl
 have kl := blk_lt K.out
 go_loop [5] (fun i => ∃ k : Nat, k ≤ os.length ∧ i = .int .i64 k ∧ Hid (∀ (j : Nat) (o' : Ob), j < k → os[j]? = some o' → nmE o' s.toList = false)) (fun i => os.length - (intOf i).toNat)
 case atStart => exact ⟨0, by omega, rfl, Lib.hid (fun j o' h => by omega)⟩
 case round =>
  obtain ⟨k, hk, rfl, GD⟩ := hrel
  by_cases hlt : k < os.length
  ·obtain ⟨o, ho⟩ := get_some hlt
   obtain ⟨b, off, rfl, hb, c0, _⟩ := HS.out.at_ ho
   have HO := Lib.hid ho
   clear ho
   by_cases e : nmE o s.toList = true
   ·have e1 : (o.name.toList == s.toList) = true := e
    have F := Lib.hid (findL_at HO.out e GD.out)
    clear e GD
    go_wp2_with fail
    go_ret
    exact ⟨ret_int F.out.symm, NN.out⟩
   ·have e1 : (o.name.toList == s.toList) = false := by simpa [nmE] using e
    have G2 : Hid (∀ (j : Nat) (o' : Ob), j < k + 1 → os[j]? = some o' → nmE o' s.toList = false) := Lib.hid (fun j o' hj h => by
     by_cases x : j = k
     ·subst x
      rw [HO.out] at h
      cases h; exact e1
     ·exact GD.out j o' (by omega) h)
    have kk : k + 1 ≤ os.length := hlt
    clear e GD
    go_wp2_with fail
    go_round
    case rel => exact ⟨k + 1, kk, by go_num, G2⟩
    case measure => simp [intOf]; omega
  ·obtain rfl : k = os.length := by omega
   have F := Lib.hid (findL_none (fun j o' h => GD.out j o' (get_lt h) h))
   clear GD
   go_wp2_with fail
   go_ret
   exact ⟨ret_int F.out.symm, NN.out⟩
def strN (os : List Ob) : Int := (os.map Ob.many).sum
theorem strN_take {os : List Ob} {k : Nat} {o : Ob} (h : os[k]? = some o) : strN (os.take (k + 1)) = strN (os.take k) + o.many := by
 obtain ⟨h1, rfl⟩ := List.getElem?_eq_some_iff.1 h
 unfold strN
 rw [List.take_succ_eq_append_getElem h1, List.map_append, List.sum_append]
 simp
def smO (os : List Ob) : Prop := ∀ o ∈ os, 0 ≤ o.many ∧ o.many ≤ 40
theorem strN_bd {os : List Ob} (h : smO os) : 0 ≤ strN os ∧ strN os ≤ 40 * os.length := by
 induction os with
 | nil => simp [strN]
 | cons o os ih =>
  have := ih (fun x hx => h x (by simp [hx]))
  have h2 := h o (by simp)
  unfold strN at this ⊢
  simp only [List.map_cons, List.sum_cons, List.length_cons]
  omega
theorem smO.take_ {os : List Ob} (h : smO os) (k : Nat) : smO (os.take k) := fun o ho => h o (List.mem_of_mem_take ho)
set_option maxHeartbeats 4000000 in
theorem stripes_calls (d p : Int) (dv : Value) (A : Option Addr) (c B : Nat) (os : List Ob) (w : World) (hn : os.length ≤ c) (hc : c ≤ 9223372036854775807) (hs : RO B w A os) (hsm : smO os) (h100 : os.length ≤ 1000) :
  Calls Try.prog 28 #[Tv d p dv (.slice A os.length c)] w fun e w' => e = .returned (.int .i64 (strN os)) ∧ Below w.heap.size w w' := by
 have HS := Lib.hid (hs.next (Bal (Below.refl w.heap.size w) (.cells #[.int .i64 d, .int .i64 p, dv, .slice A os.length c] 25)))
 have NN := Lib.hid (Bal (Below.refl w.heap.size w) (.cells #[.int .i64 d, .int .i64 p, dv, .slice A os.length c] 25))
 have K := Lib.hid (blk_new w (.cells #[.int .i64 d, .int .i64 p, dv, .slice A os.length c] 25))
 have SM := Lib.hid hsm
 clear hs hsm
 go_enter Try.func28, Try.ntmps28
 go_wp2_with fail
 generalize w.alloc (.cells #[.int .i64 d, .int .i64 p, dv, .slice A os.length c] 25) = W0 at *
 have k3 := blk_cell K.out 3 _ rfl
 have kl := blk_lt K.out
 go_loop [3, 4] (fun n i => ∃ (k : Nat) (t : Int), k ≤ os.length ∧ i = .int .i64 k ∧ n = .int .i64 t ∧ 0 ≤ t ∧ t ≤ 40000 ∧ Hid (t = strN (os.take k))) (fun _ i => os.length - (intOf i).toNat)
 case atStart => exact ⟨0, 0, by omega, rfl, rfl, by omega, by omega, Lib.hid (by simp [strN])⟩
 case round =>
  obtain ⟨k, t, hk, rfl, rfl, t1, t2, GD⟩ := hrel
  by_cases hlt : k < os.length
  ·obtain ⟨o, ho⟩ := get_some hlt
   obtain ⟨b, off, rfl, hb, _, _, _, c3, _⟩ := HS.out.at_ ho
   obtain ⟨m1, m2⟩ := SM.out o (List.mem_of_getElem? ho)
   have G2 : Hid (t + o.many = strN (os.take (k + 1))) := Lib.hid (by rw [strN_take ho, GD.out])
   have b2 := strN_bd (SM.out.take_ (k + 1))
   have b3 : (os.take (k + 1)).length ≤ 1000 := by rw [List.length_take]; omega
   have t3 : t + o.many ≤ 40000 := by rw [G2.out]; omega
   have kk : k + 1 ≤ os.length := hlt
   clear ho GD b2 b3
   go_wp2_with fail
   go_round
   case rel => exact ⟨k + 1, t + o.many, kk, by go_num, rfl, by omega, t3, G2⟩
   case measure => simp [intOf]; omega
  ·obtain rfl : k = os.length := by omega
   go_wp2_with fail
   go_ret
   exact ⟨ret_int (by rw [GD.out, List.take_length]), NN.out⟩
end Go.Proofs.Ytapehckcmmompaa
namespace Go.Proofs.Ytapehckcmmompaa
open Go.ChangeShapes Go.WideShapes Go.ChangeAt Go.RowKit
set_option linter.unusedVariables false
set_option maxRecDepth 100000
attribute [local go_sem ↓] Go.wp_at_zero Go.wp_at_succ
def objB (d fr : Int) (o : Ob) : Bool := namB o.name.data.toList && (decide (0 ≤ o.size) && (decide (o.size ≤ 256) && ((o.many == ned o.size d) && ((o.from_ == fr) && (decide (0 ≤ o.dig) && decide (o.dig < 1000000007))))))
def Lh (s : ByteArray) : Prop := s.size ≤ 9223372036854775807
set_option maxHeartbeats 8000000 in
theorem isObject_calls (o : Ob) (d fr : Int) (w : World) (h1 : 1 ≤ d) (h8 : d ≤ 8) (hl : Lh o.name) :
  Calls Try.prog 54 #[obV o, .int .i64 d, .int .i64 fr] w fun e w' => e = .returned (.bool (objB d fr o)) ∧ Below w.heap.size w w' := by
 obtain ⟨s, sz, f, m, g⟩ := o
 have IN := Lib.hid (fun W => isName_calls s W hl)
 have OB : Hid (objB d fr ⟨s, sz, f, m, g⟩ = (namB s.data.toList && (decide (0 ≤ sz) && (decide (sz ≤ 256) && ((m == ned sz d) && ((f == fr) && (decide (0 ≤ g) && decide (g < 1000000007)))))))) := Lib.hid rfl
 generalize objB d fr ⟨s, sz, f, m, g⟩ = res at *
 have NN := Lib.hid (Bal (Below.refl w.heap.size w) (.cells #[.string s, .int .i64 sz, .int .i64 f, .int .i64 m, .int .i64 g] 50))
 have K := Lib.hid (blk_new w (.cells #[.string s, .int .i64 sz, .int .i64 f, .int .i64 m, .int .i64 g] 50))
 clear hl
 generalize namB s.data.toList = nb at *
 cases nb
 ·have NE := Lib.hid (fun W (a : 0 ≤ sz) (b : sz ≤ 1000) => needed_calls sz d W a b h1 h8)
  have R : Hid (res = false) := Lib.hid (by rw [OB.out]; simp [*])
  clear OB
  go_enter Try.func54, Try.ntmps54
  go_wp2_with fail
  generalize w.alloc (.cells #[.string s, .int .i64 sz, .int .i64 f, .int .i64 m, .int .i64 g] 50) = W0 at *
  have c0 := blk_cell K.out 0 _ rfl
  have c1 := blk_cell K.out 1 _ rfl
  have c2 := blk_cell K.out 2 _ rfl
  have c3 := blk_cell K.out 3 _ rfl
  have c4 := blk_cell K.out 4 _ rfl
  have kl := blk_lt K.out
  go_quiet (first | (go_at_call 43; exact Calls.quiet_of ((IN.out _).mono fun e w' ⟨h, hw⟩ => ⟨h, 0, hw.symm⟩)) | (go_at_call 45; exact Calls.quiet_of ((NE.out _).mono fun e w' ⟨h, hw⟩ => ⟨h, 0, hw.symm⟩)))
  go_wp2_with fail
  go_ret
  exact ⟨ret_bool R.out.symm, below_drewN NN.out _⟩
 by_cases p1 : 0 ≤ sz
 rotate_left
 ·have d1 : decide ((0 : Int) ≤ sz) = false := decide_eq_false p1
  have NE := Lib.hid (fun W (a : 0 ≤ sz) (b : sz ≤ 1000) => needed_calls sz d W a b h1 h8)
  clear p1
  have R : Hid (res = false) := Lib.hid (by rw [OB.out]; simp [*])
  clear OB
  go_enter Try.func54, Try.ntmps54
  go_wp2_with fail
  generalize w.alloc (.cells #[.string s, .int .i64 sz, .int .i64 f, .int .i64 m, .int .i64 g] 50) = W0 at *
  have c0 := blk_cell K.out 0 _ rfl
  have c1 := blk_cell K.out 1 _ rfl
  have c2 := blk_cell K.out 2 _ rfl
  have c3 := blk_cell K.out 3 _ rfl
  have c4 := blk_cell K.out 4 _ rfl
  have kl := blk_lt K.out
  go_quiet (first | (go_at_call 43; exact Calls.quiet_of ((IN.out _).mono fun e w' ⟨h, hw⟩ => ⟨h, 0, hw.symm⟩)) | (go_at_call 45; exact Calls.quiet_of ((NE.out _).mono fun e w' ⟨h, hw⟩ => ⟨h, 0, hw.symm⟩)))
  go_wp2_with fail
  go_ret
  exact ⟨ret_bool R.out.symm, below_drewN NN.out _⟩
 have d1 : decide ((0 : Int) ≤ sz) = true := decide_eq_true p1
 by_cases p2 : sz ≤ 256
 rotate_left
 ·have d2 : decide (sz ≤ (256 : Int)) = false := decide_eq_false p2
  have NE := Lib.hid (fun W (a : 0 ≤ sz) (b : sz ≤ 1000) => needed_calls sz d W a b h1 h8)
  clear p1 p2
  have R : Hid (res = false) := Lib.hid (by rw [OB.out]; simp [*])
  clear OB
  go_enter Try.func54, Try.ntmps54
  go_wp2_with fail
  generalize w.alloc (.cells #[.string s, .int .i64 sz, .int .i64 f, .int .i64 m, .int .i64 g] 50) = W0 at *
  have c0 := blk_cell K.out 0 _ rfl
  have c1 := blk_cell K.out 1 _ rfl
  have c2 := blk_cell K.out 2 _ rfl
  have c3 := blk_cell K.out 3 _ rfl
  have c4 := blk_cell K.out 4 _ rfl
  have kl := blk_lt K.out
  go_quiet (first | (go_at_call 43; exact Calls.quiet_of ((IN.out _).mono fun e w' ⟨h, hw⟩ => ⟨h, 0, hw.symm⟩)) | (go_at_call 45; exact Calls.quiet_of ((NE.out _).mono fun e w' ⟨h, hw⟩ => ⟨h, 0, hw.symm⟩)))
  go_wp2_with fail
  go_ret
  exact ⟨ret_bool R.out.symm, below_drewN NN.out _⟩
 have d2 : decide (sz ≤ (256 : Int)) = true := decide_eq_true p2
 have NE := Lib.hid (fun W => needed_calls sz d W p1 (by omega) h1 h8)
 generalize ned sz d = nd at *
 by_cases p3 : m = nd
 rotate_left
 ·have d3 : (m == nd) = false := by rw [beq_eq_false_iff_ne]; exact p3
  clear p1 p2 p3
  have R : Hid (res = false) := Lib.hid (by rw [OB.out]; simp [*])
  clear OB
  go_enter Try.func54, Try.ntmps54
  go_wp2_with fail
  generalize w.alloc (.cells #[.string s, .int .i64 sz, .int .i64 f, .int .i64 m, .int .i64 g] 50) = W0 at *
  have c0 := blk_cell K.out 0 _ rfl
  have c1 := blk_cell K.out 1 _ rfl
  have c2 := blk_cell K.out 2 _ rfl
  have c3 := blk_cell K.out 3 _ rfl
  have c4 := blk_cell K.out 4 _ rfl
  have kl := blk_lt K.out
  go_quiet (first | (go_at_call 43; exact Calls.quiet_of ((IN.out _).mono fun e w' ⟨h, hw⟩ => ⟨h, 0, hw.symm⟩)) | (go_at_call 45; exact Calls.quiet_of ((NE.out _).mono fun e w' ⟨h, hw⟩ => ⟨h, 0, hw.symm⟩)))
  go_wp2_with fail
  go_ret
  exact ⟨ret_bool R.out.symm, below_drewN NN.out _⟩
 have d3 : (m == nd) = true := by rw [beq_iff_eq]; exact p3
 clear p3
 by_cases p4 : f = fr
 rotate_left
 ·have d4 : (f == fr) = false := by rw [beq_eq_false_iff_ne]; exact p4
  clear p1 p2 p4
  have R : Hid (res = false) := Lib.hid (by rw [OB.out]; simp [*])
  clear OB
  go_enter Try.func54, Try.ntmps54
  go_wp2_with fail
  generalize w.alloc (.cells #[.string s, .int .i64 sz, .int .i64 f, .int .i64 m, .int .i64 g] 50) = W0 at *
  have c0 := blk_cell K.out 0 _ rfl
  have c1 := blk_cell K.out 1 _ rfl
  have c2 := blk_cell K.out 2 _ rfl
  have c3 := blk_cell K.out 3 _ rfl
  have c4 := blk_cell K.out 4 _ rfl
  have kl := blk_lt K.out
  go_quiet (first | (go_at_call 43; exact Calls.quiet_of ((IN.out _).mono fun e w' ⟨h, hw⟩ => ⟨h, 0, hw.symm⟩)) | (go_at_call 45; exact Calls.quiet_of ((NE.out _).mono fun e w' ⟨h, hw⟩ => ⟨h, 0, hw.symm⟩)))
  go_wp2_with fail
  go_ret
  exact ⟨ret_bool R.out.symm, below_drewN NN.out _⟩
 have d4 : (f == fr) = true := by rw [beq_iff_eq]; exact p4
 clear p4
 by_cases p5 : 0 ≤ g
 rotate_left
 ·have d5 : decide ((0 : Int) ≤ g) = false := decide_eq_false p5
  clear p1 p2 p5
  have R : Hid (res = false) := Lib.hid (by rw [OB.out]; simp [*])
  clear OB
  go_enter Try.func54, Try.ntmps54
  go_wp2_with fail
  generalize w.alloc (.cells #[.string s, .int .i64 sz, .int .i64 f, .int .i64 m, .int .i64 g] 50) = W0 at *
  have c0 := blk_cell K.out 0 _ rfl
  have c1 := blk_cell K.out 1 _ rfl
  have c2 := blk_cell K.out 2 _ rfl
  have c3 := blk_cell K.out 3 _ rfl
  have c4 := blk_cell K.out 4 _ rfl
  have kl := blk_lt K.out
  go_quiet (first | (go_at_call 43; exact Calls.quiet_of ((IN.out _).mono fun e w' ⟨h, hw⟩ => ⟨h, 0, hw.symm⟩)) | (go_at_call 45; exact Calls.quiet_of ((NE.out _).mono fun e w' ⟨h, hw⟩ => ⟨h, 0, hw.symm⟩)))
  go_wp2_with fail
  go_ret
  exact ⟨ret_bool R.out.symm, below_drewN NN.out _⟩
 have d5 : decide ((0 : Int) ≤ g) = true := decide_eq_true p5
 by_cases p6 : g < 1000000007
 rotate_left
 ·have d6 : decide (g < (1000000007 : Int)) = false := decide_eq_false p6
  clear p1 p2 p5 p6
  have R : Hid (res = false) := Lib.hid (by rw [OB.out]; simp [*])
  clear OB
  go_enter Try.func54, Try.ntmps54
  go_wp2_with fail
  generalize w.alloc (.cells #[.string s, .int .i64 sz, .int .i64 f, .int .i64 m, .int .i64 g] 50) = W0 at *
  have c0 := blk_cell K.out 0 _ rfl
  have c1 := blk_cell K.out 1 _ rfl
  have c2 := blk_cell K.out 2 _ rfl
  have c3 := blk_cell K.out 3 _ rfl
  have c4 := blk_cell K.out 4 _ rfl
  have kl := blk_lt K.out
  go_quiet (first | (go_at_call 43; exact Calls.quiet_of ((IN.out _).mono fun e w' ⟨h, hw⟩ => ⟨h, 0, hw.symm⟩)) | (go_at_call 45; exact Calls.quiet_of ((NE.out _).mono fun e w' ⟨h, hw⟩ => ⟨h, 0, hw.symm⟩)))
  go_wp2_with fail
  go_ret
  exact ⟨ret_bool R.out.symm, below_drewN NN.out _⟩
 have d6 : decide (g < (1000000007 : Int)) = true := decide_eq_true p6
 clear p1 p2 p5 p6
 have R : Hid (res = true) := Lib.hid (by rw [OB.out]; simp [*])
 clear OB
 go_enter Try.func54, Try.ntmps54
 go_wp2_with fail
 generalize w.alloc (.cells #[.string s, .int .i64 sz, .int .i64 f, .int .i64 m, .int .i64 g] 50) = W0 at *
 have c0 := blk_cell K.out 0 _ rfl
 have c1 := blk_cell K.out 1 _ rfl
 have c2 := blk_cell K.out 2 _ rfl
 have c3 := blk_cell K.out 3 _ rfl
 have c4 := blk_cell K.out 4 _ rfl
 have kl := blk_lt K.out
 go_quiet (first | (go_at_call 43; exact Calls.quiet_of ((IN.out _).mono fun e w' ⟨h, hw⟩ => ⟨h, 0, hw.symm⟩)) | (go_at_call 45; exact Calls.quiet_of ((NE.out _).mono fun e w' ⟨h, hw⟩ => ⟨h, 0, hw.symm⟩)))
 go_wp2_with fail
 go_ret
 exact ⟨ret_bool R.out.symm, below_drewN NN.out _⟩
end Go.Proofs.Ytapehckcmmompaa
namespace Go.Proofs.Ytapehckcmmompaa
open Go Go.RowKit
set_option linter.unusedVariables false
section
variable {P : Program} {ops : Array Oper} {Q : Exit → Act → World → Prop} {md : Region.Mode} {S : Nat → World → Prop}
def wpAnyI (P : Program) (md : Region.Mode) (ops : Array Oper) (Q : Exit → Act → World → Prop) (S : Nat → World → Prop) : Nat → Array Bool → Act → World → Prop
 | 0, done, a, w => Region.ready md ops done = [] ∧ Q .normal a w
 | f + 1, done, a, w => (Region.ready md ops done = [] → Q .normal a w) ∧
  ∀ i ∈ Region.ready md ops done, wpOp P ops Q i (fun a' w' => (∀ k, Region.waitsFor md ops i k = false → S k w → S k w') ∧ wpAnyI P md ops Q S f (done.setIfInBounds i true) a' w') a w
theorem wpAny_of_I : ∀ (f : Nat) (done : Array Bool) (a : Act) (w : World), wpAnyI P md ops Q S f done a w → wpAny P md ops Q f done a w
 | 0, _, _, _, h => h
 | f + 1, _, _, _, h => ⟨h.1, fun i hi => wpOp_mono (fun a' w' h' => wpAny_of_I f _ a' w' h'.2) (h.2 i hi)⟩
theorem not_waits {i j : Nat} {done : Array Bool} (hj : j ∈ Region.ready md ops done) (hi : i ∈ Region.ready md ops done) : Region.waitsFor md ops j i = false := by
 cases h : Region.waitsFor md ops j i with
 | false => rfl
 | true =>
  obtain ⟨oj, hoj, e, he, hb, hon⟩ := Region.waitsFor_spec h
  obtain ⟨_, o', ho', hall⟩ := mem_ready.1 hj
  have : o' = oj := Option.some.inj (ho'.symm.trans hoj)
  subst this
  have h1 := hall e he hb
  have h0 := getD_both (mem_ready.1 hi).1
  rw [hon, h0] at h1
  cases h1
theorem edge_ne {i j : Nat} {oj : Oper} {done : Array Bool} (hoj : ops[j]? = some oj) (hj : j ∈ Region.ready md ops done) (hi : i ∈ Region.ready md ops done) : ∀ e ∈ oj.after, Region.binds md e = true → e.on ≠ i := fun e he hb heq => by
 obtain ⟨_, o', ho', hall⟩ := mem_ready.1 hj
 have : o' = oj := Option.some.inj (ho'.symm.trans hoj)
 subst this
 have h1 := hall e he hb
 rw [heq, getD_both (mem_ready.1 hi).1] at h1
 cases h1
theorem wpAnyI_first {i : Nat} {oi : Oper} {v : Value} (hi : ops[i]? = some oi) (hsel : ∀ (j : Nat) (o : Oper) cs b, ops[j]? = some o → o.op ≠ .select cs b)
  (hQ : ∀ c a w, Q (.panic c) (a.put oi.dst v) w → Q (.panic c) a w) :
  ∀ (f : Nat) (done : Array Bool) (a : Act) (w : World),
   (∀ j oj, ops[j]? = some oj → j ≠ i → done.getD j true = false → (∀ e ∈ oj.after, Region.binds md e = true → e.on ≠ i) → oi.apart ops oj = true) →
   i ∈ Region.ready md ops done → YieldsIf P ops (S i) oi v a → S i w →
   wpAnyI P md ops Q S f (done.setIfInBounds i true) (a.put oi.dst v) w → wpAnyI P md ops Q S (f + 1) done a w := by
 intro f
 induction f with
 | zero =>
  intro done a w _ hr hy hS H
  refine ⟨fun h => (by rw [h] at hr; cases hr), fun j hj => ?_⟩
  by_cases e : j = i
  ·subst e; exact hy.wpOp hi hS ⟨fun _ _ h => h, H⟩
  ·have := ready_mono hj e
   rw [H.1] at this
   cases this
 | succ f ih =>
  intro done a w hfree hr hy hS H
  refine ⟨fun h => (by rw [h] at hr; cases hr), fun j hj => ?_⟩
  by_cases e : j = i
  ·subst e; exact hy.wpOp hi hS ⟨fun _ _ h => h, H⟩
  ·have h1 := H.2 j (ready_mono hj e)
   obtain ⟨hjun, oj, hoj, _⟩ := mem_ready.1 hj
   have nw := not_waits hj hr
   have h2 := wpOp_putIf hoj (hfree j oj hoj e hjun (edge_ne hoj hj hr)) (fun cs b => hsel i oi cs b hi) (fun cs b => hsel j oj cs b hoj) hQ hy h1
   have hfree' : ∀ k ok, ops[k]? = some ok → k ≠ i → (done.setIfInBounds j true).getD k true = false → (∀ e ∈ ok.after, Region.binds md e = true → e.on ≠ i) → oi.apart ops ok = true := fun k ok hk hki hun hno => by
    refine hfree k ok hk hki ?_ hno
    by_cases hjk : j = k
    ·subst hjk; exact hjun
    ·rw [getD_set_ne true hjk] at hun; exact hun
   refine wpOp_mono (fun a' w' h3 => ⟨h3.2.1, ?_⟩) h2
   have r2 := ready_mono hr (Ne.symm e)
   refine ih (done.setIfInBounds j true) a' w' hfree' r2 h3.1 (h3.2.1 i nw hS) ?_
   rw [Array.setIfInBounds_comm _ _ e]
   exact h3.2.2
theorem take_I {oi : Oper} {f : Nat} {done : Array Bool} {a : Act} {w : World} (i : Nat) (v : Value) (d : Option Nat) (hi : ops[i]? = some oi) (hs : Region.noSelect ops = true) (hf : Region.free md ops done i = true)
  (hr : (Region.ready md ops done).contains i = true) (hd : oi.dst = d) (hQ : ∀ c a w, Q (.panic c) (a.put oi.dst v) w → Q (.panic c) a w) (hy : YieldsIf P ops (S i) oi v a) (hS : S i w)
  (h : wpAnyI P md ops Q S f (done.setIfInBounds i true) (a.put d v) w) : wpAnyI P md ops Q S (f + 1) done a w :=
 wpAnyI_first hi (Region.noSelect_spec hs) hQ f done a w (Region.free_spec hi hf) (by simpa using hr) hy hS (by rw [hd]; exact h)
theorem only_I {o : Oper} {f : Nat} {done : Array Bool} {a : Act} {w : World} (i : Nat) (hr : Region.ready md ops done = [i]) (ho : ops[i]? = some o)
  (h : ∀ K' : Act → World → Prop, Shut (∀ a' w', (∀ k, Region.waitsFor md ops i k = false → S k w → S k w') → wpAnyI P md ops Q S f (done.setIfInBounds i true) a' w' → K' a' w') → if Region.wanted o (yielded ops a.tmps) = true then Oper.wp P o a w K' Q else K' (a.put o.dst undef) w) :
  wpAnyI P md ops Q S (f + 1) done a w :=
 ⟨fun h0 => (by rw [hr] at h0; cases h0), fun j hj => by
  rw [hr] at hj
  have e : j = i := by simpa using hj
  subst e
  exact wpOp_step ho (fun K' hK => h K' (fun a' w' h1 h2 => hK a' w' ⟨h1, h2⟩))⟩
theorem done_I {done : Array Bool} {a : Act} {w : World} (hr : Region.ready md ops done = []) (h : Q .normal a w) : ∀ f, wpAnyI P md ops Q S f done a w
 | 0 => ⟨hr, h⟩
 | _ + 1 => ⟨fun _ => h, by rw [hr]; simp⟩
theorem region_I {id : Nat} {a : Act} {w : World} (hm : P.follows .mixedOrders = true) (h : wpAnyI P .any ops Q S ops.size (Array.replicate ops.size false) a w.drew) : (Code.region id ops true).wp P Q a w :=
 wp_region_any hm (wpAny_of_I _ _ _ _ h)
end
theorem bfl {p : Prop} {b : Bool} (h1 : b = true) (h2 : b = false) : p := by rw [h1] at h2; cases h2
def SK (L : List (Nat × Nat × Obj)) (k : Nat) (X : World) : Prop := ∀ p ∈ L, p.1 = k → X.heap[p.2.1]? = some p.2.2
theorem SK.next {L : List (Nat × Nat × Obj)} {k : Nat} {X Y : World} (h : SK L k X) (hb : Below X.heap.size X Y) : SK L k Y := fun p hp e => blk_next hb (h p hp e)
theorem SK.drop {L : List (Nat × Nat × Obj)} {k : Nat} {Y : World} (h : ∀ p ∈ L, p.1 ≠ k) : SK L k Y := fun p hp e => absurd e (h p hp)
theorem zA {α : Type} (l : List α) (i : Nat) (a : α) : l.toArray.setIfInBounds i a = (l.set i a).toArray := List.setIfInBounds_toArray ..
theorem zB {α : Type} {a b : α} {l : List α} : (a :: l).set 0 b = b :: l := rfl
theorem zC {α : Type} {a b : α} {l : List α} {n : Nat} : (a :: l).set (n + 1) b = a :: l.set n b := rfl
theorem tJ {P : Program} {ops : Array Oper} {Q : Exit → Act → World → Prop} {md : Region.Mode} {S : Nat → World → Prop} {oi : Oper} {f : Nat} {done : Array Bool} {a : Act} {w : World} (i : Nat) (v : Value) (d : Option Nat) (hi : ops[i]? = some oi) (hS : S i w) (hy : YieldsIf P ops (S i) oi v a) (h : wpAnyI P md ops Q S f (done.setIfInBounds i true) (a.put d v) w)
 (hs : Region.noSelect ops = true := by kernel_rfl) (hf : Region.free md ops done i = true := by kernel_rfl)
 (hr : (Region.ready md ops done).contains i = true := by kernel_rfl) (hd : oi.dst = d := by rfl) (hQ : ∀ c a w, Q (.panic c) (a.put oi.dst v) w → Q (.panic c) a w := by exact fun _ _ _ h => h) : wpAnyI P md ops Q S (f + 1) done a w :=
 take_I i v d hi hs hf hr hd hQ hy hS h
end Go.Proofs.Ytapehckcmmompaa
namespace Go.Proofs.Ytapehckcmmompaa
open Go.ChangeShapes Go.WideShapes Go.ChangeAt Go.RowKit
set_option linter.unusedVariables false
set_option maxRecDepth 100000
attribute [local go_sem ↓] Go.wp_at_zero Go.wp_at_succ
structure Dk where
 failed : Bool
 blocks : List (List Nat)
def RD (B : Nat) (w : World) (A : Option Addr) (ds : List Dk) : Prop :=
 ∀ (i : Nat) (d : Dk), ds[i]? = some d → ∃ b off u, A = some ⟨b, off, none⟩ ∧ B ≤ b ∧ b < w.heap.size ∧ w.cell? ⟨b, off + i * 2, none⟩ = some (.bool d.failed) ∧ w.cell? ⟨b, off + i * 2 + 1, none⟩ = some u ∧ RM B w u d.blocks
theorem RD.next {B : Nat} {w w' : World} {A : Option Addr} {ds : List Dk} (hb : Below w.heap.size w w') (h : RD B w A ds) : RD B w' A ds := fun i d hd => by
 obtain ⟨b, off, u, e, h1, h2, h3, h4, h5⟩ := h i d hd
 exact ⟨b, off, u, e, h1, Nat.lt_of_lt_of_le h2 hb.size, (hb.cell h2).trans h3, (hb.cell h2).trans h4, h5.next hb⟩
theorem RD.mono {B B' : Nat} {w : World} {A : Option Addr} {ds : List Dk} (h : RD B w A ds) (hB : B' ≤ B) : RD B' w A ds := fun i d hd => by
 obtain ⟨b, off, u, e, h1, h2, h3, h4, h5⟩ := h i d hd
 exact ⟨b, off, u, e, by omega, h2, h3, h4, h5.mono hB⟩
theorem RD.at_ {B : Nat} {w : World} {A : Option Addr} {ds : List Dk} (h : RD B w A ds) {i : Nat} {d : Dk} (hi : ds[i]? = some d) :
  ∃ b off Ai ci, A = some ⟨b, off, none⟩ ∧ b < w.heap.size ∧ w.cell? ⟨b, off + i * 2, none⟩ = some (.bool d.failed) ∧ w.cell? ⟨b, off + i * 2 + 1, none⟩ = some (.slice Ai d.blocks.length ci) ∧ d.blocks.length ≤ ci ∧ ci ≤ 9223372036854775807 ∧ RMA B w Ai d.blocks := by
 obtain ⟨b, off, u, e, _, h2, h3, h4, Ai, ci, rfl, k1, k2, k3⟩ := h i d hi
 exact ⟨b, off, Ai, ci, e, h2, h3, h4, k1, k2, k3⟩
def dkB (n : Int) (d : Dk) : Bool := if d.failed then decide (d.blocks.length = 0) else ((d.blocks.length : Int) == n) && d.blocks.all fun b => decide (b.length = 8)
abbrev Kv (f : Bool) (v : Value) : Value := .agg #[.bool f, v]
set_option maxHeartbeats 4000000 in
theorem isDisk_calls (d : Dk) (n : Int) (A : Option Addr) (c B : Nat) (w : World) (hn : d.blocks.length ≤ c) (hc : c ≤ 9223372036854775807) (hs : RMA B w A d.blocks) :
  Calls Try.prog 55 #[Kv d.failed (.slice A d.blocks.length c), .int .i64 n] w fun e w' => e = .returned (.bool (dkB n d)) ∧ Below w.heap.size w w' := by
 obtain ⟨f, m⟩ := d
 simp only at hn hs ⊢
 have HS := Lib.hid (hs.next (Bal (Below.refl w.heap.size w) (.cells #[.bool f, .slice A m.length c] 46)))
 have NN := Lib.hid (Bal (Below.refl w.heap.size w) (.cells #[.bool f, .slice A m.length c] 46))
 have K := Lib.hid (blk_new w (.cells #[.bool f, .slice A m.length c] 46))
 have DB : Hid (dkB n ⟨f, m⟩ = if f then decide (m.length = 0) else ((m.length : Int) == n) && m.all fun b => decide (b.length = 8)) := Lib.hid rfl
 generalize dkB n ⟨f, m⟩ = res at *
 clear hs
 cases f
 ·by_cases e : (m.length : Int) = n
  ·have e1 : ((m.length : Int) != n) = false := by rw [bne_eq_false_iff_eq]; exact e
   have D2 : Hid (res = m.all fun b => decide (b.length = 8)) := Lib.hid (by rw [DB.out, e]; simp)
   clear e DB
   go_enter Try.func55, Try.ntmps55
   go_wp2_with fail
   generalize w.alloc (.cells #[.bool false, .slice A m.length c] 46) = W0 at *
   have k0 := blk_cell K.out 0 _ rfl
   have k1 := blk_cell K.out 1 _ rfl
   have kl := blk_lt K.out
   go_wp2_with fail
   go_loop [21] (fun i => ∃ k : Nat, k ≤ m.length ∧ i = .int .i64 k ∧ Hid (∀ (j : Nat) (l : List Nat), j < k → m[j]? = some l → l.length = 8)) (fun i => m.length - (intOf i).toNat)
   case atStart => exact ⟨0, by omega, rfl, Lib.hid (fun j l h => by omega)⟩
   case round =>
    obtain ⟨k, hk, rfl, GD⟩ := hrel
    by_cases hlt : k < m.length
    ·obtain ⟨l, hl⟩ := get_some hlt
     obtain ⟨b, off, Ai, ci, rfl, hb, h1, h2, h3, _⟩ := HS.out.at_ hl
     have HL := Lib.hid hl
     clear hl
     by_cases h0 : l.length = 8
     ·have q : ((l.length : Int) != 8) = false := by rw [h0]; rfl
      have G2 : Hid (∀ (j : Nat) (l : List Nat), j < k + 1 → m[j]? = some l → l.length = 8) := Lib.hid (fun j l' hj h => by
       by_cases x : j = k
       ·subst x
        rw [HL.out] at h
        cases h; exact h0
       ·exact GD.out j l' (by omega) h)
      have kk : k + 1 ≤ m.length := hlt
      have H0 := Lib.hid h0
      clear h0 GD
      go_wp2_with fail
      go_round
      case rel => exact ⟨k + 1, kk, by go_num, G2⟩
      case measure => simp [intOf]; omega
     ·have q : ((l.length : Int) != 8) = true := by rw [bne_iff_ne]; omega
      have R : Hid (res = false) := Lib.hid (by rw [D2.out, List.all_eq_false]; exact ⟨l, List.mem_of_getElem? HL.out, by simpa using h0⟩)
      have H0 := Lib.hid h0
      clear h0 GD
      go_wp2_with fail
      go_ret
      exact ⟨ret_bool R.out.symm, NN.out⟩
    ·obtain rfl : k = m.length := by omega
     have R : Hid (res = true) := Lib.hid (by
      rw [D2.out, List.all_eq_true]
      intro l hl
      obtain ⟨j, hj⟩ := List.mem_iff_getElem?.1 hl
      exact decide_eq_true (GD.out j l (get_lt hj) hj))
     clear GD
     go_wp2_with fail
     go_ret
     exact ⟨ret_bool R.out.symm, NN.out⟩
  ·have e1 : ((m.length : Int) != n) = true := by rw [bne_iff_ne]; exact e
   have R : Hid (res = false) := Lib.hid (by rw [DB.out, beq_eq_false_iff_ne.2 e]; simp)
   clear e DB
   go_enter Try.func55, Try.ntmps55
   go_wp2_with fail
   generalize w.alloc (.cells #[.bool false, .slice A m.length c] 46) = W0 at *
   have k0 := blk_cell K.out 0 _ rfl
   have k1 := blk_cell K.out 1 _ rfl
   have kl := blk_lt K.out
   go_wp2_with fail
   go_ret
   exact ⟨ret_bool R.out.symm, NN.out⟩
 ·have R : Hid (res = ((m.length : Int) == 0)) := Lib.hid (by rw [DB.out, Bool.eq_iff_iff]; simp)
  clear DB
  go_enter Try.func55, Try.ntmps55
  go_wp2_with fail
  generalize w.alloc (.cells #[.bool true, .slice A m.length c] 46) = W0 at *
  have k0 := blk_cell K.out 0 _ rfl
  have k1 := blk_cell K.out 1 _ rfl
  have kl := blk_lt K.out
  go_wp2_with fail
  go_ret
  exact ⟨ret_bool R.out.symm, NN.out⟩
end Go.Proofs.Ytapehckcmmompaa
