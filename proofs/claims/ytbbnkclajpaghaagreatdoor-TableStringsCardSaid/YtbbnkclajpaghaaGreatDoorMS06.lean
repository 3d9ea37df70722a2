/- Several texts in one. -/
import Derived.StillTail
import Derived.Deep.RegionHeld3
import Derived.OpenShut
import Derived.Test.YtbbnkclajpaghaaGreatDoorMS00
import Derived.Test.YtbbnkclajpaghaaGreatDoorMS03
import Derived.Test.YtbbnkclajpaghaaGreatDoorMS04
import Derived.Test.YtbbnkclajpaghaaGreatDoorMS05
namespace Go.Proofs.YtbbnkclajpaghaaGreatDoor
open Go.ChangeShapes Go.WideShapes Go.ChangeAt Go.RowKit
set_option linter.unusedVariables false
attribute [local go_sem ↓] Go.wp_at_zero Go.wp_at_succ
def restL (l : List UInt8) (k : Nat) : List UInt8 := if k = 0 then bodyL l else l.drop k
theorem str_get (s : ByteArray) (k : Nat) (h : k < s.size) : s.data.toList[k]? = some s[k] := by
 have : k < s.data.toList.length := by rw [Array.length_toList]; exact h
 rw [List.getElem?_eq_getElem this]
 rfl
theorem negL_head {l : List UInt8} {c : UInt8} (h : l[0]? = some c) : negL l = (c.toNat == 45) := by
 cases l with
 | nil => simp at h
 | cons x r => simp at h; subst h; rfl
theorem rest_next {l : List UInt8} {k : Nat} {c : UInt8} (h : l[k]? = some c) (hk : k = 0 → c.toNat ≠ 45) : restL l k = c :: restL l (k + 1) := by
 have e : restL l (k + 1) = l.drop (k + 1) := by unfold restL; rw [if_neg (by omega)]
 obtain ⟨h1, h2⟩ := List.getElem?_eq_some_iff.1 h
 have d := List.drop_eq_getElem_cons h1
 rw [h2] at d
 rw [e, ← d]
 unfold restL
 by_cases z : k = 0
 ·subst z
  rw [if_pos rfl]
  unfold bodyL
  rw [negL_head h, if_neg]
  ·rfl
  ·simp; exact hk rfl
 ·rw [if_neg z]
theorem rest_minus {l : List UInt8} {c : UInt8} (h : l[0]? = some c) (hc : c.toNat = 45) : restL l 0 = restL l 1 := by
 unfold restL
 rw [if_pos rfl, if_neg (by decide)]
 unfold bodyL
 rw [negL_head h, hc]
 simp
theorem rest_end {l : List UInt8} {k : Nat} (h : l.length ≤ k) (h0 : 0 < l.length) : restL l k = [] := by
 unfold restL
 rw [if_neg (by omega), List.drop_eq_nil_of_le h]
theorem num_nil {n : Nat} {R : Option Nat} (h : numL [] n = R) : R = some n := h.symm
def NUP (l : List UInt8) (w : World) (e : Ending) (w' : World) : Prop := ∃ v b, e = .returned (.tuple #[.int .i64 v, .bool b]) ∧ NR l v b ∧ Below w.heap.size w w'
set_option maxRecDepth 100000 in
set_option maxHeartbeats 8000000 in
theorem number_calls (s : ByteArray) (w : World) (hs : s.size ≤ 9223372036854775807) :
  Calls Tryz.prog 66 #[.string s] w (NUP s.data.toList w) := by
 have SL := s_len s
 have SG := Lib.hid (fun k (h : k < s.size) => str_get s k h)
 obtain ⟨l, hl⟩ : ∃ l, s.data.toList = l := ⟨_, rfl⟩
 rw [hl] at SL SG ⊢
 have HL := Lib.hid hl
 clear hl
 by_cases z : s.size = 0
 ·have NO := Lib.hid (NR.long (l := l) (.inl (by omega)) 0)
  have k0 : ((s.size : Int) == 0) = true := by rw [z]; rfl
  have LE := Lib.hid SL
  clear SL z
  go_enter Tryz.func66, Tryz.ntmps66
  go_wp2_with fail
  go_ret2
  exact ⟨0, false, rfl, NO.out, Below.refl _ _⟩
 by_cases big : 20 < s.size
 ·have NO := Lib.hid (NR.long (l := l) (.inr (by omega)) 0)
  have k0 : ((s.size : Int) == 0) = false := by rw [beq_eq_false_iff_ne]; omega
  have k1 : decide ((20 : Int) < (s.size : Int)) = true := decide_eq_true (by omega)
  have LE := Lib.hid SL
  clear SL z
  go_enter Tryz.func66, Tryz.ntmps66
  go_wp2_with fail
  go_ret2
  exact ⟨0, false, rfl, NO.out, Below.refl _ _⟩
 have k0 : ((s.size : Int) == 0) = false := by rw [beq_eq_false_iff_ne]; omega
 have k1 : decide ((20 : Int) < (s.size : Int)) = false := decide_eq_false (by omega)
 have s1 : 0 < s.size := by omega
 have s2 : s.size ≤ 20 := by omega
 have ODD := Lib.hid (fun h => NR.odd (l := l) h 0)
 have VAL := Lib.hid (fun m h => NR.val (l := l) (m := m) h)
 obtain ⟨R, hR⟩ : ∃ R, numL (bodyL l) 0 = R := ⟨_, rfl⟩
 have ST : Hid (numL (restL l 0) 0 = R) := Lib.hid (by rw [← hR]; rfl)
 rw [hR] at ODD
 have VAL2 := Lib.hid (fun m (h : R = some m) => VAL.out m (hR.trans h))
 have LE := Lib.hid SL
 clear SL z big hR VAL
 go_enter Tryz.func66, Tryz.ntmps66
 go_wp2_with fail
 go_loop [4, 5] (fun n i => ∃ k m : Nat, k ≤ s.size ∧ i = .int .i64 k ∧ n = .int .i64 m ∧ m ≤ 1000000000000000009 ∧ Hid (numL (restL l k) m = R) ∧ (k = 0 → m = 0)) (fun _ i => s.size - (intOf i).toNat)
 case atStart => exact ⟨0, 0, by omega, rfl, rfl, by omega, ST, fun _ => rfl⟩
 case round =>
  clear ST
  obtain ⟨k, m, hk, rfl, rfl, hm, ST, m0⟩ := hrel
  by_cases hlt : k < s.size
  ·have hc := SG.out k hlt
   by_cases mi : k = 0 ∧ s[k].toNat = 45
   ·obtain ⟨rfl, h45⟩ := mi
    obtain rfl := m0 rfl
    have e1 : ((s[0].toNat : Int) == 45) = true := by rw [h45]; rfl
    have S2 : Hid (numL (restL l 1) 0 = R) := Lib.hid (by rw [← rest_minus hc h45]; exact ST.out)
    clear hc h45 ST m0
    go_wp2_with fail
    go_round
    case rel => exact ⟨1, 0, by omega, by go_num, rfl, by omega, S2, fun h => by omega⟩
    case measure => simp [intOf]; omega
   ·have RN := rest_next hc (fun h h' => mi ⟨h, h'⟩)
    have S2 := ST.out
    rw [RN] at S2
    unfold numL at S2
    have HS := Lib.hid S2
    clear S2 RN hc ST m0
    have z1 : decide ((0 : Int) ≤ (k : Int)) = true := decide_eq_true (by omega)
    by_cases lo : s[k].toNat < 48
    ·have RO := Lib.hid (ODD.out (by rw [← HS.out, if_pos (.inl lo)]))
     have e2 : decide ((s[k].toNat : Int) < 48) = true := decide_eq_true (by omega)
     by_cases c45 : s[k].toNat = 45
     ·have e1 : ((s[k].toNat : Int) == 45) = true := by rw [c45]; rfl
      have e3 : ((k : Int) == 0) = false := by rw [beq_eq_false_iff_ne]; omega
      clear c45 lo mi HS
      go_wp2_with fail
      go_ret2
      exact ⟨0, false, rfl, RO.out, Below.refl _ _⟩
     ·have e1 : ((s[k].toNat : Int) == 45) = false := by rw [beq_eq_false_iff_ne]; omega
      clear c45 lo mi HS
      go_wp2_with fail
      go_ret2
      exact ⟨0, false, rfl, RO.out, Below.refl _ _⟩
    ·have e2 : decide ((s[k].toNat : Int) < 48) = false := decide_eq_false (by omega)
     have e1 : ((s[k].toNat : Int) == 45) = false := by rw [beq_eq_false_iff_ne]; omega
     by_cases hi : 57 < s[k].toNat
     ·have RO := Lib.hid (ODD.out (by rw [← HS.out, if_pos (.inr (.inl hi))]))
      have e3 : decide ((57 : Int) < (s[k].toNat : Int)) = true := decide_eq_true (by omega)
      clear lo hi mi HS
      go_wp2_with fail
      go_ret2
      exact ⟨0, false, rfl, RO.out, Below.refl _ _⟩
     ·have e3 : decide ((57 : Int) < (s[k].toNat : Int)) = false := decide_eq_false (by omega)
      by_cases mb : 100000000000000000 < m
      ·have RO := Lib.hid (ODD.out (by rw [← HS.out, if_pos (.inr (.inr mb))]))
       have e4 : decide ((100000000000000000 : Int) < (m : Int)) = true := decide_eq_true (by omega)
       clear lo hi mi HS mb
       go_wp2_with fail
       go_ret2
       exact ⟨0, false, rfl, RO.out, Below.refl _ _⟩
      ·have e4 : decide ((100000000000000000 : Int) < (m : Int)) = false := decide_eq_false (by omega)
       have S2 : Hid (numL (restL l (k + 1)) (10 * m + (s[k].toNat - 48)) = R) := Lib.hid (by rw [← HS.out, if_neg (by omega)])
       have b1 : (48 : Int) ≤ (s[k].toNat : Int) := by omega
       have b2 : (s[k].toNat : Int) ≤ 57 := by omega
       have b3 : (m : Int) ≤ 100000000000000000 := by omega
       have kk : k + 1 ≤ s.size := hlt
       have CA : Hid ((10 * (m : Int) + ((s[k].toNat : Int) - 48)) = ((10 * m + (s[k].toNat - 48) : Nat) : Int)) := Lib.hid (by omega)
       have NB : Hid (10 * m + (s[k].toNat - 48) ≤ 1000000000000000009) := Lib.hid (by omega)
       clear lo hi mi HS mb hm
       go_wp2_with fail
       go_round
       case rel => exact ⟨k + 1, 10 * m + (s[k].toNat - 48), kk, by go_num, by rw [← CA.out], NB.out, S2, fun h => by omega⟩
       case measure => simp [intOf]; omega
  ·have e : k = s.size := by omega
   have RM : Hid (R = some m) := Lib.hid (num_nil (by rw [← rest_end (l := l) (k := k) (by rw [LE.out]; omega) (by rw [LE.out]; omega)]; exact ST.out))
   have VL := Lib.hid (VAL2.out m RM.out)
   have h0 := SG.out 0 s1
   have NG : Hid (negL l = (s[0].toNat == 45)) := Lib.hid (negL_head h0)
   clear h0 ST m0 RM
   have s0 : 0 < s.size := s1
   by_cases neg : s[0].toNat = 45
   ·have e1 : ((s[0].toNat : Int) == 45) = true := by rw [neg]; rfl
    have V2 := VL.out
    rw [show negL l = true by rw [NG.out, neg]; rfl, show sgn true m = -(m : Int) from rfl] at V2
    have HV := Lib.hid V2
    clear V2 VL NG neg
    obtain ⟨v, hv⟩ : ∃ v : Int, -(m : Int) = v := ⟨_, rfl⟩
    rw [hv] at HV
    have v1 : -9223372036854775808 < v := by omega
    have v2 : v ≤ 9223372036854775807 := by omega
    by_cases c1 : -1000000000000000000 ≤ v
    rotate_left
    ·have d1 : decide ((-1000000000000000000 : Int) ≤ v) = false := decide_eq_false c1
     rw [d1] at HV
     clear c1
     go_wp2_with fail
     go_ret2
     exact ⟨v, false, rfl, HV.out, Below.refl _ _⟩
    have d1 : decide ((-1000000000000000000 : Int) ≤ v) = true := decide_eq_true c1
    rw [d1] at HV
    by_cases c2 : v ≤ 1000000000000000000
    rotate_left
    ·have d2 : decide (v ≤ (1000000000000000000 : Int)) = false := decide_eq_false c2
     rw [d2] at HV
     clear c1 c2
     go_wp2_with fail
     go_ret2
     exact ⟨v, false, rfl, HV.out, Below.refl _ _⟩
    have d2 : decide (v ≤ (1000000000000000000 : Int)) = true := decide_eq_true c2
    rw [d2, Bool.true_and, Bool.true_and] at HV
    have DC := Lib.hid (fun W => dec_calls v W v1 v2)
    have SE : Hid (s.toList = l) := Lib.hid (by rw [ByteArray.toList_eq]; exact HL.out)
    generalize Lib.itoa v = tx at *
    clear c1 c2
    go_wp2_with fail
    refine (DC.out _).mono ?_
    rintro e w1 ⟨rfl, hb⟩
    have NN := Lib.hid hb
    clear hb
    go_wp2_with fail
    go_ret2
    exact ⟨v, tx == s.toList, rfl, by rw [SE.out]; exact HV.out, NN.out⟩
   ·have e1 : ((s[0].toNat : Int) == 45) = false := by rw [beq_eq_false_iff_ne]; omega
    have V2 := VL.out
    rw [show negL l = false by rw [NG.out, beq_eq_false_iff_ne]; exact neg, show sgn false m = (m : Int) from rfl] at V2
    have HV := Lib.hid V2
    clear V2 VL NG neg
    obtain ⟨v, hv⟩ : ∃ v : Int, (m : Int) = v := ⟨_, rfl⟩
    rw [hv] at HV
    have v1 : -9223372036854775808 < v := by omega
    have v2 : v ≤ 9223372036854775807 := by omega
    by_cases c1 : -1000000000000000000 ≤ v
    rotate_left
    ·have d1 : decide ((-1000000000000000000 : Int) ≤ v) = false := decide_eq_false c1
     rw [d1] at HV
     clear c1
     go_wp2_with fail
     go_ret2
     exact ⟨v, false, rfl, HV.out, Below.refl _ _⟩
    have d1 : decide ((-1000000000000000000 : Int) ≤ v) = true := decide_eq_true c1
    rw [d1] at HV
    by_cases c2 : v ≤ 1000000000000000000
    rotate_left
    ·have d2 : decide (v ≤ (1000000000000000000 : Int)) = false := decide_eq_false c2
     rw [d2] at HV
     clear c1 c2
     go_wp2_with fail
     go_ret2
     exact ⟨v, false, rfl, HV.out, Below.refl _ _⟩
    have d2 : decide (v ≤ (1000000000000000000 : Int)) = true := decide_eq_true c2
    rw [d2, Bool.true_and, Bool.true_and] at HV
    have DC := Lib.hid (fun W => dec_calls v W v1 v2)
    have SE : Hid (s.toList = l) := Lib.hid (by rw [ByteArray.toList_eq]; exact HL.out)
    generalize Lib.itoa v = tx at *
    clear c1 c2
    go_wp2_with fail
    refine (DC.out _).mono ?_
    rintro e w1 ⟨rfl, hb⟩
    have NN := Lib.hid hb
    clear hb
    go_wp2_with fail
    go_ret2
    exact ⟨v, tx == s.toList, rfl, by rw [SE.out]; exact HV.out, NN.out⟩
end Go.Proofs.YtbbnkclajpaghaaGreatDoor
namespace Go.Proofs.YtbbnkclajpaghaaGreatDoor
open Go.ChangeShapes Go.WideShapes Go.ChangeAt Go.RowKit
set_option linter.unusedVariables false
attribute [local go_sem ↓] Go.wp_at_zero Go.wp_at_succ
theorem cat3b (a b : List UInt8) : (⟨a.toArray⟩ : ByteArray) ++ (⟨#[47]⟩ : ByteArray) ++ ⟨b.toArray⟩ = ⟨(a ++ 47 :: b).toArray⟩ := by
 rw [show (⟨#[47]⟩ : ByteArray) = ⟨[47].toArray⟩ from rfl, cat2, cat2, List.append_assoc]
 rfl
set_option maxRecDepth 100000 in
set_option maxHeartbeats 8000000 in
theorem refText_calls (n d : Int) (w : World) :
  Calls Tryz.prog 56 #[Fv n d] w fun e w' => e = .returned (.tuple #[Str (txR n d), .int .i64 (errF n d)]) ∧ Below w.heap.size w w' := by
 have C1 := Lib.hid (fun W => refCheck_calls n d W)
 by_cases ck : errF n d = 0
 rotate_left
 ·have X : Hid (txR n d = []) := Lib.hid (by unfold txR; rw [if_neg ck])
  have ck' : (errF n d != 0) = true := by rw [bne_iff_ne]; exact ck
  generalize txR n d = res at *
  generalize errF n d = er at *
  clear ck
  go_enter Tryz.func56, Tryz.ntmps56
  go_wp2_with fail
  refine (C1.out _).mono ?_
  rintro e w1 ⟨rfl, hb⟩
  have NN := Lib.hid (Bgo (Bal (Below.refl _ _) _) hb)
  have K := Lib.hid (blk_next hb (blk_new w (.cells #[.int .i64 n, .int .i64 d] 83)))
  clear hb
  have a0 := blk_cell K.out 0 _ rfl
  have a1 := blk_cell K.out 1 _ rfl
  have al := blk_lt K.out
  go_wp2_with fail
  refine (C1.out _).mono ?_
  rintro e w2 ⟨rfl, hb⟩
  replace NN := Lib.hid (Bgo NN.out hb)
  clear hb a0 a1 al
  go_wp2_with fail
  go_ret2
  exact ⟨by rw [X.out]; rfl, NN.out⟩
 have v := errF_ok ck
 have X : Hid (txR n d = textL n d) := Lib.hid (by unfold txR; rw [if_pos ck])
 rw [ck] at C1 ⊢
 generalize txR n d = res at *
 have n1 := v.n1
 have n2 := v.n2
 have d1 := v.d1
 have d2 := v.d2
 have T1 := Lib.hid (fun W => dec_calls n W (by omega) (by omega))
 have T2 := Lib.hid (fun W => dec_calls d W (by omega) (by omega))
 have FT : Hid (textL n d = if d = 1 then Lib.itoa n else Lib.itoa n ++ 47 :: Lib.itoa d) := Lib.hid rfl
 have ln := Lib.itoa_length_le n (by omega) (by omega)
 have ld := Lib.itoa_length_le d (by omega) (by omega)
 generalize Lib.itoa n = tn at *
 generalize Lib.itoa d = td at *
 clear ck v
 by_cases hd : d = 1
 ·have F2 := Lib.hid (X.out.trans (FT.out.trans (if_pos hd)))
  clear X FT
  subst hd
  go_enter Tryz.func56, Tryz.ntmps56
  go_wp2_with fail
  refine (C1.out _).mono ?_
  rintro e w1 ⟨rfl, hb⟩
  have NN := Lib.hid (Bgo (Bal (Below.refl _ _) _) hb)
  have K := Lib.hid (blk_next hb (blk_new w (.cells #[.int .i64 n, .int .i64 1] 83)))
  clear hb
  have a0 := blk_cell K.out 0 _ rfl
  have a1 := blk_cell K.out 1 _ rfl
  have al := blk_lt K.out
  go_wp2_with fail
  refine (T1.out _).mono ?_
  rintro e w2 ⟨rfl, hb⟩
  clear a0 a1 al
  replace NN := Lib.hid (Bgo NN.out hb)
  clear hb
  go_wp2_with fail
  go_ret2
  exact ⟨by rw [F2.out]; rfl, NN.out⟩
 ·have F2 := Lib.hid (X.out.trans (FT.out.trans (if_neg hd)))
  clear X FT
  have hd' : (d == 1) = false := by rw [beq_eq_false_iff_ne]; exact hd
  have LA : ¬ 9223372036854775807 < tn.length + 1 := by omega
  have LB : ¬ 9223372036854775807 < tn.length + 1 + td.length := by omega
  clear hd
  go_enter Tryz.func56, Tryz.ntmps56
  go_wp2_with fail
  refine (C1.out _).mono ?_
  rintro e w1 ⟨rfl, hb⟩
  have NN := Lib.hid (Bgo (Bal (Below.refl _ _) _) hb)
  have K := Lib.hid (blk_next hb (blk_new w (.cells #[.int .i64 n, .int .i64 d] 83)))
  clear hb
  have a0 := blk_cell K.out 0 _ rfl
  have a1 := blk_cell K.out 1 _ rfl
  have al := blk_lt K.out
  go_wp2_with fail
  clear a0 a1 al
  refine region_I (S := SK [(1, w.heap.size, .cells #[.int .i64 n, .int .i64 d] 83), (5, w.heap.size, .cells #[.int .i64 n, .int .i64 d] 83)]) (by kernel_rfl) ?_
  have HAL := Lib.hid (fun (k : Nat) => (show SK [(1, w.heap.size, .cells #[.int .i64 n, .int .i64 d] 83), (5, w.heap.size, .cells #[.int .i64 n, .int .i64 d] 83)] k w1.drew from fun p hp e => by
   simp only [List.mem_cons, List.not_mem_nil, or_false] at hp
   rcases hp with rfl | rfl
   ·exact K.out
   ·exact K.out))
  replace NN := Lib.hid (Bgo NN.out (Below.drew (Below.refl w1.heap.size w1)))
  refine take_I 0 (.pointer (some ⟨w.heap.size, 0, none⟩)) (some 15) rfl (by kernel_rfl) (by kernel_rfl) (by kernel_rfl) rfl (fun _ _ _ h => h) (Or.inl ⟨by rfl, ?_⟩) (SK.drop (by simp)) ?_
  ·intro X hX
   clear hX
   go_simp
  try simp only [Act.put, zA, zB, zC]
  refine take_I 1 (.int .i64 n) (some 16) rfl (by kernel_rfl) (by kernel_rfl) (by kernel_rfl) rfl (fun _ _ _ h => h) (Or.inl ⟨by rfl, ?_⟩) (HAL.out 1) ?_
  ·intro X hX
   have hh := hX (1, w.heap.size, .cells #[.int .i64 n, .int .i64 d] 83) (List.Mem.head _) rfl
   have hh0 := blk_cell hh 0 _ rfl
   have hhl := blk_lt hh
   clear hh
   clear hX
   go_simp
  try simp only [Act.put, zA, zB, zC]
  refine take_I 4 (.pointer (some ⟨w.heap.size, 1, none⟩)) (some 19) rfl (by kernel_rfl) (by kernel_rfl) (by kernel_rfl) rfl (fun _ _ _ h => h) (Or.inl ⟨by rfl, ?_⟩) (SK.drop (by simp)) ?_
  ·intro X hX
   clear hX
   go_simp
  try simp only [Act.put, zA, zB, zC]
  refine take_I 5 (.int .i64 d) (some 20) rfl (by kernel_rfl) (by kernel_rfl) (by kernel_rfl) rfl (fun _ _ _ h => h) (Or.inl ⟨by rfl, ?_⟩) (HAL.out 5) ?_
  ·intro X hX
   have hh := hX (5, w.heap.size, .cells #[.int .i64 n, .int .i64 d] 83) (List.Mem.tail _ (List.Mem.head _)) rfl
   have hh1 := blk_cell hh 1 _ rfl
   have hhl := blk_lt hh
   clear hh
   clear hX
   go_simp
  try simp only [Act.put, zA, zB, zC]
  refine only_I 2 (by kernel_rfl) rfl (fun K' hK' => ?_)
  go_simp
  go_at_call 84
  refine (T1.out _).mono ?_
  rintro e w2 ⟨rfl, hb⟩
  replace NN := Lib.hid (Bgo NN.out hb)
  go_simp
  refine hK'.out _ _ (fun k _ hS => hS.next hb) ?_
  clear hK' K'
  try simp only [Act.put, zA, zB, zC]
  replace HAL := Lib.hid (fun k => (HAL.out k).next hb)
  refine take_I 3 (.string ((⟨tn.toArray⟩ : ByteArray) ++ ⟨#[47]⟩)) (some 18) rfl (by kernel_rfl) (by kernel_rfl) (by kernel_rfl) rfl (fun _ _ _ h => h) (Or.inl ⟨by rfl, ?_⟩) (SK.drop (by simp)) ?_
  ·intro X hX
   clear hX
   go_simp
  try simp only [Act.put, zA, zB, zC]
  refine only_I 6 (by kernel_rfl) rfl (fun K' hK' => ?_)
  go_simp
  go_at_call 84
  refine (T2.out _).mono ?_
  rintro e w3 ⟨rfl, hb⟩
  replace NN := Lib.hid (Bgo NN.out hb)
  go_simp
  refine hK'.out _ _ (fun k _ hS => hS.next hb) ?_
  clear hK' K'
  try simp only [Act.put, zA, zB, zC]
  replace HAL := Lib.hid (fun k => (HAL.out k).next hb)
  refine only_I 7 (by kernel_rfl) rfl (fun K' hK' => ?_)
  go_simp
  refine hK'.out _ _ (fun k _ h => h) ?_
  clear hK' K'
  try simp only [Act.put, zA, zB, zC]
  refine only_I 8 (by kernel_rfl) rfl (fun K' hK' => ?_)
  go_simp
  refine hK'.out _ _ (fun k _ h => h) ?_
  clear hK' K'
  try simp only [Act.put, zA, zB, zC]
  refine only_I 9 (by kernel_rfl) rfl (fun K' hK' => ?_)
  go_simp
  refine hK'.out _ _ (fun k _ h => h) ?_
  clear hK' K'
  try simp only [Act.put, zA, zB, zC]
  refine done_I (by kernel_rfl) ?_ _
  go_wp2_with fail
  go_ret2
  exact ⟨by rw [cat3b tn td, F2.out]; rfl, NN.out⟩
end Go.Proofs.YtbbnkclajpaghaaGreatDoor
namespace Go.Proofs.YtbbnkclajpaghaaGreatDoor
open Go.ChangeShapes Go.WideShapes Go.ChangeAt Go.RowKit
set_option linter.unusedVariables false
set_option linter.unusedSimpArgs false
attribute [local go_sem ↓] Go.wp_at_zero Go.wp_at_succ
theorem refText_ok {n d : Int} (v : VF n d) (w : World) : Calls Tryz.prog 56 #[Fv n d] w fun e w' => e = .returned (.tuple #[Str (textL n d), .int .i64 0]) ∧ Below w.heap.size w w' := by
 have := refText_calls n d w
 unfold txR at this
 rw [v.err, if_pos rfl] at this
 exact this
set_option maxRecDepth 100000 in
set_option maxHeartbeats 8000000 in
theorem real_calls {r : Vr} (h : rowB r = true) (w : World) : Calls Tryz.prog 57 #[Cv r] w fun e w' => e = .returned (Fv (makeF r.re r.dn).1 (makeF r.re r.dn).2.1) ∧ Below w.heap.size w w' := by
 have NN := Lib.hid (Below.refl w.heap.size w)
 obtain ⟨-, -, hc, ⟨n1, d1, e1, -, -⟩, ⟨n2, d2, e2, -, -⟩, -⟩ := rowB_val h
 have hl := val_lim hc
 have C1 := Lib.hid (fun W => refMake_calls r.re r.dn W (by omega) (by omega) (by omega) (by omega))
 rw [e1] at C1 ⊢
 simp only
 clear h hc hl e1 e2
 go_enter Tryz.func57, Tryz.ntmps57
 go_wp2_with fail
 have V : Hid (((w.alloc (.cells #[.int .i64 r.re, .int .i64 r.im, .int .i64 r.dn] 40)).alloc (.cells #[.int .i64 0, .int .i64 0] 83)).heap[w.heap.size]? = some (.cells #[.int .i64 r.re, .int .i64 r.im, .int .i64 r.dn] 40)) := Lib.hid (blk_alloc (blk_new w _) _)
 have RE : Hid (((w.alloc (.cells #[.int .i64 r.re, .int .i64 r.im, .int .i64 r.dn] 40)).alloc (.cells #[.int .i64 0, .int .i64 0] 83)).heap[w.heap.size + 1]? = some (.cells #[.int .i64 0, .int .i64 0] 83)) := Lib.hid (blk_at _ (by simp))
 replace NN : Hid (Below w.heap.size w ((w.alloc (.cells #[.int .i64 r.re, .int .i64 r.im, .int .i64 r.dn] 40)).alloc (.cells #[.int .i64 0, .int .i64 0] 83))) := Lib.hid (Bal (Bal NN.out _) _)
 generalize ((w.alloc (.cells #[.int .i64 r.re, .int .i64 r.im, .int .i64 r.dn] 40)).alloc (.cells #[.int .i64 0, .int .i64 0] 83)) = W1 at *
 have c_V_0 := blk_cell V.out 0 _ rfl
 have f_V_0 := blk_frozen V.out 0
 have c_V_1 := blk_cell V.out 1 _ rfl
 have f_V_1 := blk_frozen V.out 1
 have c_V_2 := blk_cell V.out 2 _ rfl
 have f_V_2 := blk_frozen V.out 2
 have l_V := blk_lt V.out
 go_wp2_with fail
 clear c_V_0 f_V_0 c_V_1 f_V_1 c_V_2 f_V_2 l_V
 refine (C1.out _).mono ?_
 rintro e w2 ⟨rfl, hb⟩
 replace NN := Lib.hid (Bgo NN.out hb)
 replace V := Lib.hid (blk_next hb V.out)
 replace RE := Lib.hid (blk_next hb RE.out)
 clear hb
 have c_RE_0 := blk_cell RE.out 0 _ rfl
 have f_RE_0 := blk_frozen RE.out 0
 have c_RE_1 := blk_cell RE.out 1 _ rfl
 have f_RE_1 := blk_frozen RE.out 1
 have l_RE := blk_lt RE.out
 go_wp2_with fail
 clear c_RE_0 f_RE_0 c_RE_1 f_RE_1 l_RE
 have q0 := blk_cell (blk_alloc (blk_set (blk_set RE.out 0 (.int .i64 n1)) 1 (.int .i64 d1)) (.cells #[.int .i64 n1, .int .i64 d1] 83)) 0 _ rfl
 have q1 := blk_cell (blk_alloc (blk_set (blk_set RE.out 0 (.int .i64 n1)) 1 (.int .i64 d1)) (.cells #[.int .i64 n1, .int .i64 d1] 83)) 1 _ rfl
 exact bodyPost_ret (v := Fv n1 d1) (by simp [results, Tryz.results57, go_sem, q0, q1]) rfl ⟨rfl, Bal (Bset1 (Bset1 NN.out (Nat.le_succ _) 0 _) (Nat.le_succ _) 1 _) _⟩
set_option maxRecDepth 100000 in
set_option maxHeartbeats 8000000 in
theorem imag_calls {r : Vr} (h : rowB r = true) (w : World) : Calls Tryz.prog 58 #[Cv r] w fun e w' => e = .returned (Fv (makeF r.im r.dn).1 (makeF r.im r.dn).2.1) ∧ Below w.heap.size w w' := by
 have NN := Lib.hid (Below.refl w.heap.size w)
 obtain ⟨-, -, hc, ⟨n1, d1, e1, -, -⟩, ⟨n2, d2, e2, -, -⟩, -⟩ := rowB_val h
 have hl := val_lim hc
 have C1 := Lib.hid (fun W => refMake_calls r.im r.dn W (by omega) (by omega) (by omega) (by omega))
 rw [e2] at C1 ⊢
 simp only
 clear h hc hl e1 e2
 go_enter Tryz.func58, Tryz.ntmps58
 go_wp2_with fail
 have V : Hid (((w.alloc (.cells #[.int .i64 r.re, .int .i64 r.im, .int .i64 r.dn] 40)).alloc (.cells #[.int .i64 0, .int .i64 0] 83)).heap[w.heap.size]? = some (.cells #[.int .i64 r.re, .int .i64 r.im, .int .i64 r.dn] 40)) := Lib.hid (blk_alloc (blk_new w _) _)
 have RE : Hid (((w.alloc (.cells #[.int .i64 r.re, .int .i64 r.im, .int .i64 r.dn] 40)).alloc (.cells #[.int .i64 0, .int .i64 0] 83)).heap[w.heap.size + 1]? = some (.cells #[.int .i64 0, .int .i64 0] 83)) := Lib.hid (blk_at _ (by simp))
 replace NN : Hid (Below w.heap.size w ((w.alloc (.cells #[.int .i64 r.re, .int .i64 r.im, .int .i64 r.dn] 40)).alloc (.cells #[.int .i64 0, .int .i64 0] 83))) := Lib.hid (Bal (Bal NN.out _) _)
 generalize ((w.alloc (.cells #[.int .i64 r.re, .int .i64 r.im, .int .i64 r.dn] 40)).alloc (.cells #[.int .i64 0, .int .i64 0] 83)) = W1 at *
 have c_V_0 := blk_cell V.out 0 _ rfl
 have f_V_0 := blk_frozen V.out 0
 have c_V_1 := blk_cell V.out 1 _ rfl
 have f_V_1 := blk_frozen V.out 1
 have c_V_2 := blk_cell V.out 2 _ rfl
 have f_V_2 := blk_frozen V.out 2
 have l_V := blk_lt V.out
 go_wp2_with fail
 clear c_V_0 f_V_0 c_V_1 f_V_1 c_V_2 f_V_2 l_V
 refine (C1.out _).mono ?_
 rintro e w2 ⟨rfl, hb⟩
 replace NN := Lib.hid (Bgo NN.out hb)
 replace V := Lib.hid (blk_next hb V.out)
 replace RE := Lib.hid (blk_next hb RE.out)
 clear hb
 have c_RE_0 := blk_cell RE.out 0 _ rfl
 have f_RE_0 := blk_frozen RE.out 0
 have c_RE_1 := blk_cell RE.out 1 _ rfl
 have f_RE_1 := blk_frozen RE.out 1
 have l_RE := blk_lt RE.out
 go_wp2_with fail
 clear c_RE_0 f_RE_0 c_RE_1 f_RE_1 l_RE
 have q0 := blk_cell (blk_alloc (blk_set (blk_set RE.out 0 (.int .i64 n2)) 1 (.int .i64 d2)) (.cells #[.int .i64 n2, .int .i64 d2] 83)) 0 _ rfl
 have q1 := blk_cell (blk_alloc (blk_set (blk_set RE.out 0 (.int .i64 n2)) 1 (.int .i64 d2)) (.cells #[.int .i64 n2, .int .i64 d2] 83)) 1 _ rfl
 exact bodyPost_ret (v := Fv n2 d2) (by simp [results, Tryz.results58, go_sem, q0, q1]) rfl ⟨rfl, Bal (Bset1 (Bset1 NN.out (Nat.le_succ _) 0 _) (Nat.le_succ _) 1 _) _⟩
end Go.Proofs.YtbbnkclajpaghaaGreatDoor
namespace Go.Proofs.YtbbnkclajpaghaaGreatDoor
open Go.ChangeShapes Go.WideShapes Go.ChangeAt Go.RowKit
set_option linter.unusedVariables false
set_option linter.unusedSimpArgs false
attribute [local go_sem ↓] Go.wp_at_zero Go.wp_at_succ
set_option maxRecDepth 100000 in
set_option maxHeartbeats 8000000 in
theorem rline_calls {r : Vr} (h : rowB r = true) (w : World) : Calls Tryz.prog 32 #[Rwv r] w fun e w' => e = .returned (Str (lnL r ++ [10])) ∧ Below w.heap.size w w' := by
 have NN := Lib.hid (Below.refl w.heap.size w)
 have P1 := Lib.hid (fun W => real_calls h W)
 have P2 := Lib.hid (fun W => imag_calls h W)
 have hf := rowB_facts h
 obtain ⟨h0, h1, hc, ⟨n1, d1, e1, v1, -⟩, ⟨n2, d2, e2, v2, -⟩, -⟩ := rowB_val h
 have I1 := Lib.hid (fun W => decimal_calls r.t W (by omega) (by omega))
 have I2 := Lib.hid (fun W => decimal_calls r.c W (by omega) (by omega))
 have I3 := Lib.hid (fun W => decimal_calls r.i W (by omega) (by omega))
 have I4 := Lib.hid (fun W => decimal_calls r.j W (by omega) (by omega))
 have I5 := Lib.hid (fun W => decimal_calls r.n W (by omega) (by omega))
 have T1 := Lib.hid (fun W => refText_ok v1 W)
 have T2 := Lib.hid (fun W => refText_ok v2 W)
 have LB : Hid ((Lib.itoa r.t).length ≤ 43 ∧ (Lib.itoa r.c).length ≤ 43 ∧ (Lib.itoa r.i).length ≤ 43 ∧ (Lib.itoa r.j).length ≤ 43 ∧ (textL n1 d1).length ≤ 43 ∧ (textL n2 d2).length ≤ 43 ∧ (Lib.itoa r.n).length ≤ 43) := Lib.hid ⟨Nat.le_trans (Lib.itoa_length_le r.t (by omega) (by omega)) (by decide), Nat.le_trans (Lib.itoa_length_le r.c (by omega) (by omega)) (by decide), Nat.le_trans (Lib.itoa_length_le r.i (by omega) (by omega)) (by decide), Nat.le_trans (Lib.itoa_length_le r.j (by omega) (by omega)) (by decide), v1.len, v2.len, Nat.le_trans (Lib.itoa_length_le r.n (by omega) (by omega)) (by decide)⟩
 have LN := lnL_len h
 have EL : lnL r = Lib.join (lnF r) [32] := rfl
 unfold lnF at EL
 rw [e1, e2] at EL
 rw [e1] at P1
 rw [e2] at P2
 simp only at EL P1 P2
 rw [EL] at LN ⊢
 have LN := Lib.hid LN
 clear h hf h0 h1 hc e1 e2 v1 v2 EL
 generalize Lib.itoa r.t = f0 at *
 generalize Lib.itoa r.c = f1 at *
 generalize Lib.itoa r.i = f2 at *
 generalize Lib.itoa r.j = f3 at *
 generalize Lib.itoa r.n = f6 at *
 generalize textL n1 d1 = f4 at *
 generalize textL n2 d2 = f5 at *
 go_enter Tryz.func32, Tryz.ntmps32
 go_wp2_with fail
 have V : Hid ((w.alloc (.cells #[.int .i64 r.t, .int .i64 r.c, .int .i64 r.i, .int .i64 r.j, .int .i64 r.re, .int .i64 r.im, .int .i64 r.dn, .int .i64 r.n] 44)).heap[w.heap.size]? = some (.cells #[.int .i64 r.t, .int .i64 r.c, .int .i64 r.i, .int .i64 r.j, .int .i64 r.re, .int .i64 r.im, .int .i64 r.dn, .int .i64 r.n] 44)) := Lib.hid (blk_new w _)
 replace NN : Hid (Below w.heap.size w (w.alloc (.cells #[.int .i64 r.t, .int .i64 r.c, .int .i64 r.i, .int .i64 r.j, .int .i64 r.re, .int .i64 r.im, .int .i64 r.dn, .int .i64 r.n] 44))) := Lib.hid (Bal NN.out _)
 generalize (w.alloc (.cells #[.int .i64 r.t, .int .i64 r.c, .int .i64 r.i, .int .i64 r.j, .int .i64 r.re, .int .i64 r.im, .int .i64 r.dn, .int .i64 r.n] 44)) = W1 at *
 have c_V_0 := blk_cell V.out 0 _ rfl
 have f_V_0 := blk_frozen V.out 0
 have c_V_1 := blk_cell V.out 1 _ rfl
 have f_V_1 := blk_frozen V.out 1
 have c_V_2 := blk_cell V.out 2 _ rfl
 have f_V_2 := blk_frozen V.out 2
 have c_V_3 := blk_cell V.out 3 _ rfl
 have f_V_3 := blk_frozen V.out 3
 have c_V_4 := blk_cell V.out 4 _ rfl
 have f_V_4 := blk_frozen V.out 4
 have c_V_5 := blk_cell V.out 5 _ rfl
 have f_V_5 := blk_frozen V.out 5
 have c_V_6 := blk_cell V.out 6 _ rfl
 have f_V_6 := blk_frozen V.out 6
 have c_V_7 := blk_cell V.out 7 _ rfl
 have f_V_7 := blk_frozen V.out 7
 have l_V := blk_lt V.out
 go_wp2_with fail
 clear c_V_0 f_V_0 c_V_1 f_V_1 c_V_2 f_V_2 c_V_3 f_V_3 c_V_4 f_V_4 c_V_5 f_V_5 c_V_6 f_V_6 c_V_7 f_V_7 l_V
 refine (P1.out _).mono ?_
 rintro e w2 ⟨rfl, hb⟩
 replace NN := Lib.hid (Bgo NN.out hb)
 replace V := Lib.hid (blk_next hb V.out)
 clear hb
 go_wp2_with fail
 refine (T1.out _).mono ?_
 rintro e w3 ⟨rfl, hb⟩
 replace NN := Lib.hid (Bgo NN.out hb)
 replace V := Lib.hid (blk_next hb V.out)
 clear hb
 have c_V_0 := blk_cell V.out 0 _ rfl
 have f_V_0 := blk_frozen V.out 0
 have c_V_1 := blk_cell V.out 1 _ rfl
 have f_V_1 := blk_frozen V.out 1
 have c_V_2 := blk_cell V.out 2 _ rfl
 have f_V_2 := blk_frozen V.out 2
 have c_V_3 := blk_cell V.out 3 _ rfl
 have f_V_3 := blk_frozen V.out 3
 have c_V_4 := blk_cell V.out 4 _ rfl
 have f_V_4 := blk_frozen V.out 4
 have c_V_5 := blk_cell V.out 5 _ rfl
 have f_V_5 := blk_frozen V.out 5
 have c_V_6 := blk_cell V.out 6 _ rfl
 have f_V_6 := blk_frozen V.out 6
 have c_V_7 := blk_cell V.out 7 _ rfl
 have f_V_7 := blk_frozen V.out 7
 have l_V := blk_lt V.out
 go_wp2_with fail
 clear c_V_0 f_V_0 c_V_1 f_V_1 c_V_2 f_V_2 c_V_3 f_V_3 c_V_4 f_V_4 c_V_5 f_V_5 c_V_6 f_V_6 c_V_7 f_V_7 l_V
 refine (P2.out _).mono ?_
 rintro e w4 ⟨rfl, hb⟩
 replace NN := Lib.hid (Bgo NN.out hb)
 replace V := Lib.hid (blk_next hb V.out)
 clear hb
 go_wp2_with fail
 refine (T2.out _).mono ?_
 rintro e w5 ⟨rfl, hb⟩
 replace NN := Lib.hid (Bgo NN.out hb)
 replace V := Lib.hid (blk_next hb V.out)
 clear hb
 go_upto_region 3 with fail
 have HDRW := Lib.hid (Below.drew (Below.refl w5.heap.size w5))
 replace NN := Lib.hid (Bgo NN.out HDRW.out)
 replace V := Lib.hid (blk_next HDRW.out V.out)
 clear HDRW
 have HAL : Hid (∀ kx9 : Nat, GK [(1, w.heap.size, .cells #[.int .i64 r.t, .int .i64 r.c, .int .i64 r.i, .int .i64 r.j, .int .i64 r.re, .int .i64 r.im, .int .i64 r.dn, .int .i64 r.n] 44), (5, w.heap.size, .cells #[.int .i64 r.t, .int .i64 r.c, .int .i64 r.i, .int .i64 r.j, .int .i64 r.re, .int .i64 r.im, .int .i64 r.dn, .int .i64 r.n] 44), (11, w.heap.size, .cells #[.int .i64 r.t, .int .i64 r.c, .int .i64 r.i, .int .i64 r.j, .int .i64 r.re, .int .i64 r.im, .int .i64 r.dn, .int .i64 r.n] 44), (17, w.heap.size, .cells #[.int .i64 r.t, .int .i64 r.c, .int .i64 r.i, .int .i64 r.j, .int .i64 r.re, .int .i64 r.im, .int .i64 r.dn, .int .i64 r.n] 44), (29, w.heap.size, .cells #[.int .i64 r.t, .int .i64 r.c, .int .i64 r.i, .int .i64 r.j, .int .i64 r.re, .int .i64 r.im, .int .i64 r.dn, .int .i64 r.n] 44)] kx9 w5.drew) := Lib.hid (fun kx9 => fun px9 hp e => by
  simp only [List.mem_cons, List.not_mem_nil, or_false] at hp
  rcases hp with rfl | rfl | rfl | rfl | rfl
  ·exact V.out
  ·exact V.out
  ·exact V.out
  ·exact V.out
  ·exact V.out
 )
 refine region_G (S := GK [(1, w.heap.size, .cells #[.int .i64 r.t, .int .i64 r.c, .int .i64 r.i, .int .i64 r.j, .int .i64 r.re, .int .i64 r.im, .int .i64 r.dn, .int .i64 r.n] 44), (5, w.heap.size, .cells #[.int .i64 r.t, .int .i64 r.c, .int .i64 r.i, .int .i64 r.j, .int .i64 r.re, .int .i64 r.im, .int .i64 r.dn, .int .i64 r.n] 44), (11, w.heap.size, .cells #[.int .i64 r.t, .int .i64 r.c, .int .i64 r.i, .int .i64 r.j, .int .i64 r.re, .int .i64 r.im, .int .i64 r.dn, .int .i64 r.n] 44), (17, w.heap.size, .cells #[.int .i64 r.t, .int .i64 r.c, .int .i64 r.i, .int .i64 r.j, .int .i64 r.re, .int .i64 r.im, .int .i64 r.dn, .int .i64 r.n] 44), (29, w.heap.size, .cells #[.int .i64 r.t, .int .i64 r.c, .int .i64 r.i, .int .i64 r.j, .int .i64 r.re, .int .i64 r.im, .int .i64 r.dn, .int .i64 r.n] 44)]) (by kernel_rfl) ?_
 refine tG 0 (.pointer (some ⟨w.heap.size, 0, none⟩)) (some 23) (GK.grow _) rfl (YieldsIf.toG (Or.inl ⟨by rfl, ?_⟩)) (GK.drop (by simp)) ?_
 ·intro X hX
  clear hX
  go_simp
  all_goals (obtain ⟨a0, a1, a2, a3, a4, a5, a6⟩ := LB.out; omega)
 try simp only [Act.put, zA, zB, zC]
 refine tG 1 (.int .i64 r.t) (some 24) (GK.grow _) rfl (YieldsIf.toG (Or.inl ⟨by rfl, ?_⟩)) (HAL.out 1) ?_
 ·intro X hX
  have hh := hX (1, w.heap.size, .cells #[.int .i64 r.t, .int .i64 r.c, .int .i64 r.i, .int .i64 r.j, .int .i64 r.re, .int .i64 r.im, .int .i64 r.dn, .int .i64 r.n] 44) (List.Mem.head _) rfl
  have hh0 := blk_cell hh 0 _ rfl
  have hhl := blk_lt hh
  clear hh
  clear hX
  go_simp
  all_goals (obtain ⟨a0, a1, a2, a3, a4, a5, a6⟩ := LB.out; omega)
 try simp only [Act.put, zA, zB, zC]
 have CFn : ∀ (args : Array Value) (W : World), Sem.run Tryz.prog (callFunc 59 args) W = .ok (.enter 59 args) W := fun _ _ => by kernel_rfl
 refine tG 2 (Str f0) (some 25) (GK.grow _) rfl (yieldsG_call 59 #[.int .i64 r.t] (by rfl) ?_ (fun X hS => I1.out X)) (GK.drop (by simp)) ?_
 ·intro X hX
  clear hX
  go_simp
 clear CFn
 try simp only [Act.put, zA, zB, zC]
 refine tG 3 (.string ((⟨f0.toArray⟩ : ByteArray) ++ ⟨#[32]⟩)) (some 26) (GK.grow _) rfl (YieldsIf.toG (Or.inl ⟨by rfl, ?_⟩)) (GK.drop (by simp)) ?_
 ·intro X hX
  clear hX
  go_simp
  all_goals (obtain ⟨a0, a1, a2, a3, a4, a5, a6⟩ := LB.out; omega)
 try simp only [Act.put, zA, zB, zC]
 refine tG 4 (.pointer (some ⟨w.heap.size, 1, none⟩)) (some 27) (GK.grow _) rfl (YieldsIf.toG (Or.inl ⟨by rfl, ?_⟩)) (GK.drop (by simp)) ?_
 ·intro X hX
  clear hX
  go_simp
  all_goals (obtain ⟨a0, a1, a2, a3, a4, a5, a6⟩ := LB.out; omega)
 try simp only [Act.put, zA, zB, zC]
 refine tG 5 (.int .i64 r.c) (some 28) (GK.grow _) rfl (YieldsIf.toG (Or.inl ⟨by rfl, ?_⟩)) (HAL.out 5) ?_
 ·intro X hX
  have hh := hX (5, w.heap.size, .cells #[.int .i64 r.t, .int .i64 r.c, .int .i64 r.i, .int .i64 r.j, .int .i64 r.re, .int .i64 r.im, .int .i64 r.dn, .int .i64 r.n] 44) (List.Mem.tail _ (List.Mem.head _)) rfl
  have hh0 := blk_cell hh 1 _ rfl
  have hhl := blk_lt hh
  clear hh
  clear hX
  go_simp
  all_goals (obtain ⟨a0, a1, a2, a3, a4, a5, a6⟩ := LB.out; omega)
 try simp only [Act.put, zA, zB, zC]
 have CFn : ∀ (args : Array Value) (W : World), Sem.run Tryz.prog (callFunc 59 args) W = .ok (.enter 59 args) W := fun _ _ => by kernel_rfl
 refine tG 6 (Str f1) (some 29) (GK.grow _) rfl (yieldsG_call 59 #[.int .i64 r.c] (by rfl) ?_ (fun X hS => I2.out X)) (GK.drop (by simp)) ?_
 ·intro X hX
  clear hX
  go_simp
 clear CFn
 try simp only [Act.put, zA, zB, zC]
 refine tG 7 (.string (((⟨f0.toArray⟩ : ByteArray) ++ ⟨#[32]⟩) ++ (⟨f1.toArray⟩ : ByteArray))) (some 30) (GK.grow _) rfl (YieldsIf.toG (Or.inl ⟨by rfl, ?_⟩)) (GK.drop (by simp)) ?_
 ·intro X hX
  clear hX
  go_simp
  all_goals (obtain ⟨a0, a1, a2, a3, a4, a5, a6⟩ := LB.out; omega)
 try simp only [Act.put, zA, zB, zC]
 refine tG 8 (.string ((((⟨f0.toArray⟩ : ByteArray) ++ ⟨#[32]⟩) ++ (⟨f1.toArray⟩ : ByteArray)) ++ ⟨#[32]⟩)) (some 31) (GK.grow _) rfl (YieldsIf.toG (Or.inl ⟨by rfl, ?_⟩)) (GK.drop (by simp)) ?_
 ·intro X hX
  clear hX
  go_simp
  all_goals (obtain ⟨a0, a1, a2, a3, a4, a5, a6⟩ := LB.out; omega)
 try simp only [Act.put, zA, zB, zC]
 refine tG 9 (.pointer (some ⟨w.heap.size, 2, none⟩)) (some 32) (GK.grow _) rfl (YieldsIf.toG (Or.inl ⟨by rfl, ?_⟩)) (GK.drop (by simp)) ?_
 ·intro X hX
  clear hX
  go_simp
  all_goals (obtain ⟨a0, a1, a2, a3, a4, a5, a6⟩ := LB.out; omega)
 try simp only [Act.put, zA, zB, zC]
 refine tG 10 (.pointer (some ⟨w.heap.size, 2, none⟩)) (some 33) (GK.grow _) rfl (YieldsIf.toG (Or.inl ⟨by rfl, ?_⟩)) (GK.drop (by simp)) ?_
 ·intro X hX
  clear hX
  go_simp
  all_goals (obtain ⟨a0, a1, a2, a3, a4, a5, a6⟩ := LB.out; omega)
 try simp only [Act.put, zA, zB, zC]
 refine tG 11 (.int .i64 r.i) (some 34) (GK.grow _) rfl (YieldsIf.toG (Or.inl ⟨by rfl, ?_⟩)) (HAL.out 11) ?_
 ·intro X hX
  have hh := hX (11, w.heap.size, .cells #[.int .i64 r.t, .int .i64 r.c, .int .i64 r.i, .int .i64 r.j, .int .i64 r.re, .int .i64 r.im, .int .i64 r.dn, .int .i64 r.n] 44) (List.Mem.tail _ (List.Mem.tail _ (List.Mem.head _))) rfl
  have hh0 := blk_cell hh 2 _ rfl
  have hhl := blk_lt hh
  clear hh
  clear hX
  go_simp
  all_goals (obtain ⟨a0, a1, a2, a3, a4, a5, a6⟩ := LB.out; omega)
 try simp only [Act.put, zA, zB, zC]
 have CFn : ∀ (args : Array Value) (W : World), Sem.run Tryz.prog (callFunc 59 args) W = .ok (.enter 59 args) W := fun _ _ => by kernel_rfl
 refine tG 12 (Str f2) (some 35) (GK.grow _) rfl (yieldsG_call 59 #[.int .i64 r.i] (by rfl) ?_ (fun X hS => I3.out X)) (GK.drop (by simp)) ?_
 ·intro X hX
  clear hX
  go_simp
 clear CFn
 try simp only [Act.put, zA, zB, zC]
 refine tG 13 (.string (((((⟨f0.toArray⟩ : ByteArray) ++ ⟨#[32]⟩) ++ (⟨f1.toArray⟩ : ByteArray)) ++ ⟨#[32]⟩) ++ (⟨f2.toArray⟩ : ByteArray))) (some 36) (GK.grow _) rfl (YieldsIf.toG (Or.inl ⟨by rfl, ?_⟩)) (GK.drop (by simp)) ?_
 ·intro X hX
  clear hX
  go_simp
  all_goals (obtain ⟨a0, a1, a2, a3, a4, a5, a6⟩ := LB.out; omega)
 try simp only [Act.put, zA, zB, zC]
 refine tG 14 (.string ((((((⟨f0.toArray⟩ : ByteArray) ++ ⟨#[32]⟩) ++ (⟨f1.toArray⟩ : ByteArray)) ++ ⟨#[32]⟩) ++ (⟨f2.toArray⟩ : ByteArray)) ++ ⟨#[32]⟩)) (some 37) (GK.grow _) rfl (YieldsIf.toG (Or.inl ⟨by rfl, ?_⟩)) (GK.drop (by simp)) ?_
 ·intro X hX
  clear hX
  go_simp
  all_goals (obtain ⟨a0, a1, a2, a3, a4, a5, a6⟩ := LB.out; omega)
 try simp only [Act.put, zA, zB, zC]
 refine tG 15 (.pointer (some ⟨w.heap.size, 2, none⟩)) (some 38) (GK.grow _) rfl (YieldsIf.toG (Or.inl ⟨by rfl, ?_⟩)) (GK.drop (by simp)) ?_
 ·intro X hX
  clear hX
  go_simp
  all_goals (obtain ⟨a0, a1, a2, a3, a4, a5, a6⟩ := LB.out; omega)
 try simp only [Act.put, zA, zB, zC]
 refine tG 16 (.pointer (some ⟨w.heap.size, 3, none⟩)) (some 39) (GK.grow _) rfl (YieldsIf.toG (Or.inl ⟨by rfl, ?_⟩)) (GK.drop (by simp)) ?_
 ·intro X hX
  clear hX
  go_simp
  all_goals (obtain ⟨a0, a1, a2, a3, a4, a5, a6⟩ := LB.out; omega)
 try simp only [Act.put, zA, zB, zC]
 refine tG 17 (.int .i64 r.j) (some 40) (GK.grow _) rfl (YieldsIf.toG (Or.inl ⟨by rfl, ?_⟩)) (HAL.out 17) ?_
 ·intro X hX
  have hh := hX (17, w.heap.size, .cells #[.int .i64 r.t, .int .i64 r.c, .int .i64 r.i, .int .i64 r.j, .int .i64 r.re, .int .i64 r.im, .int .i64 r.dn, .int .i64 r.n] 44) (List.Mem.tail _ (List.Mem.tail _ (List.Mem.tail _ (List.Mem.head _)))) rfl
  have hh0 := blk_cell hh 3 _ rfl
  have hhl := blk_lt hh
  clear hh
  clear hX
  go_simp
  all_goals (obtain ⟨a0, a1, a2, a3, a4, a5, a6⟩ := LB.out; omega)
 try simp only [Act.put, zA, zB, zC]
 have CFn : ∀ (args : Array Value) (W : World), Sem.run Tryz.prog (callFunc 59 args) W = .ok (.enter 59 args) W := fun _ _ => by kernel_rfl
 refine tG 18 (Str f3) (some 41) (GK.grow _) rfl (yieldsG_call 59 #[.int .i64 r.j] (by rfl) ?_ (fun X hS => I4.out X)) (GK.drop (by simp)) ?_
 ·intro X hX
  clear hX
  go_simp
 clear CFn
 try simp only [Act.put, zA, zB, zC]
 refine tG 19 (.string (((((((⟨f0.toArray⟩ : ByteArray) ++ ⟨#[32]⟩) ++ (⟨f1.toArray⟩ : ByteArray)) ++ ⟨#[32]⟩) ++ (⟨f2.toArray⟩ : ByteArray)) ++ ⟨#[32]⟩) ++ (⟨f3.toArray⟩ : ByteArray))) (some 42) (GK.grow _) rfl (YieldsIf.toG (Or.inl ⟨by rfl, ?_⟩)) (GK.drop (by simp)) ?_
 ·intro X hX
  clear hX
  go_simp
  all_goals (obtain ⟨a0, a1, a2, a3, a4, a5, a6⟩ := LB.out; omega)
 try simp only [Act.put, zA, zB, zC]
 refine tG 20 (.string ((((((((⟨f0.toArray⟩ : ByteArray) ++ ⟨#[32]⟩) ++ (⟨f1.toArray⟩ : ByteArray)) ++ ⟨#[32]⟩) ++ (⟨f2.toArray⟩ : ByteArray)) ++ ⟨#[32]⟩) ++ (⟨f3.toArray⟩ : ByteArray)) ++ ⟨#[32]⟩)) (some 43) (GK.grow _) rfl (YieldsIf.toG (Or.inl ⟨by rfl, ?_⟩)) (GK.drop (by simp)) ?_
 ·intro X hX
  clear hX
  go_simp
  all_goals (obtain ⟨a0, a1, a2, a3, a4, a5, a6⟩ := LB.out; omega)
 try simp only [Act.put, zA, zB, zC]
 refine tG 21 (Str f4) (some 44) (GK.grow _) rfl (YieldsIf.toG (Or.inl ⟨by rfl, ?_⟩)) (GK.drop (by simp)) ?_
 ·intro X hX
  clear hX
  go_simp
  all_goals (obtain ⟨a0, a1, a2, a3, a4, a5, a6⟩ := LB.out; omega)
 try simp only [Act.put, zA, zB, zC]
 refine tG 22 (.string (((((((((⟨f0.toArray⟩ : ByteArray) ++ ⟨#[32]⟩) ++ (⟨f1.toArray⟩ : ByteArray)) ++ ⟨#[32]⟩) ++ (⟨f2.toArray⟩ : ByteArray)) ++ ⟨#[32]⟩) ++ (⟨f3.toArray⟩ : ByteArray)) ++ ⟨#[32]⟩) ++ (⟨f4.toArray⟩ : ByteArray))) (some 45) (GK.grow _) rfl (YieldsIf.toG (Or.inl ⟨by rfl, ?_⟩)) (GK.drop (by simp)) ?_
 ·intro X hX
  clear hX
  go_simp
  all_goals (obtain ⟨a0, a1, a2, a3, a4, a5, a6⟩ := LB.out; omega)
 try simp only [Act.put, zA, zB, zC]
 refine tG 23 (.string ((((((((((⟨f0.toArray⟩ : ByteArray) ++ ⟨#[32]⟩) ++ (⟨f1.toArray⟩ : ByteArray)) ++ ⟨#[32]⟩) ++ (⟨f2.toArray⟩ : ByteArray)) ++ ⟨#[32]⟩) ++ (⟨f3.toArray⟩ : ByteArray)) ++ ⟨#[32]⟩) ++ (⟨f4.toArray⟩ : ByteArray)) ++ ⟨#[32]⟩)) (some 46) (GK.grow _) rfl (YieldsIf.toG (Or.inl ⟨by rfl, ?_⟩)) (GK.drop (by simp)) ?_
 ·intro X hX
  clear hX
  go_simp
  all_goals (obtain ⟨a0, a1, a2, a3, a4, a5, a6⟩ := LB.out; omega)
 try simp only [Act.put, zA, zB, zC]
 refine tG 24 (Str f5) (some 47) (GK.grow _) rfl (YieldsIf.toG (Or.inl ⟨by rfl, ?_⟩)) (GK.drop (by simp)) ?_
 ·intro X hX
  clear hX
  go_simp
  all_goals (obtain ⟨a0, a1, a2, a3, a4, a5, a6⟩ := LB.out; omega)
 try simp only [Act.put, zA, zB, zC]
 refine tG 25 (.string (((((((((((⟨f0.toArray⟩ : ByteArray) ++ ⟨#[32]⟩) ++ (⟨f1.toArray⟩ : ByteArray)) ++ ⟨#[32]⟩) ++ (⟨f2.toArray⟩ : ByteArray)) ++ ⟨#[32]⟩) ++ (⟨f3.toArray⟩ : ByteArray)) ++ ⟨#[32]⟩) ++ (⟨f4.toArray⟩ : ByteArray)) ++ ⟨#[32]⟩) ++ (⟨f5.toArray⟩ : ByteArray))) (some 48) (GK.grow _) rfl (YieldsIf.toG (Or.inl ⟨by rfl, ?_⟩)) (GK.drop (by simp)) ?_
 ·intro X hX
  clear hX
  go_simp
  all_goals (obtain ⟨a0, a1, a2, a3, a4, a5, a6⟩ := LB.out; omega)
 try simp only [Act.put, zA, zB, zC]
 refine tG 26 (.string ((((((((((((⟨f0.toArray⟩ : ByteArray) ++ ⟨#[32]⟩) ++ (⟨f1.toArray⟩ : ByteArray)) ++ ⟨#[32]⟩) ++ (⟨f2.toArray⟩ : ByteArray)) ++ ⟨#[32]⟩) ++ (⟨f3.toArray⟩ : ByteArray)) ++ ⟨#[32]⟩) ++ (⟨f4.toArray⟩ : ByteArray)) ++ ⟨#[32]⟩) ++ (⟨f5.toArray⟩ : ByteArray)) ++ ⟨#[32]⟩)) (some 49) (GK.grow _) rfl (YieldsIf.toG (Or.inl ⟨by rfl, ?_⟩)) (GK.drop (by simp)) ?_
 ·intro X hX
  clear hX
  go_simp
  all_goals (obtain ⟨a0, a1, a2, a3, a4, a5, a6⟩ := LB.out; omega)
 try simp only [Act.put, zA, zB, zC]
 refine tG 27 (.pointer (some ⟨w.heap.size, 2, none⟩)) (some 50) (GK.grow _) rfl (YieldsIf.toG (Or.inl ⟨by rfl, ?_⟩)) (GK.drop (by simp)) ?_
 ·intro X hX
  clear hX
  go_simp
  all_goals (obtain ⟨a0, a1, a2, a3, a4, a5, a6⟩ := LB.out; omega)
 try simp only [Act.put, zA, zB, zC]
 refine tG 28 (.pointer (some ⟨w.heap.size, 7, none⟩)) (some 51) (GK.grow _) rfl (YieldsIf.toG (Or.inl ⟨by rfl, ?_⟩)) (GK.drop (by simp)) ?_
 ·intro X hX
  clear hX
  go_simp
  all_goals (obtain ⟨a0, a1, a2, a3, a4, a5, a6⟩ := LB.out; omega)
 try simp only [Act.put, zA, zB, zC]
 refine tG 29 (.int .i64 r.n) (some 52) (GK.grow _) rfl (YieldsIf.toG (Or.inl ⟨by rfl, ?_⟩)) (HAL.out 29) ?_
 ·intro X hX
  have hh := hX (29, w.heap.size, .cells #[.int .i64 r.t, .int .i64 r.c, .int .i64 r.i, .int .i64 r.j, .int .i64 r.re, .int .i64 r.im, .int .i64 r.dn, .int .i64 r.n] 44) (List.Mem.tail _ (List.Mem.tail _ (List.Mem.tail _ (List.Mem.tail _ (List.Mem.head _))))) rfl
  have hh0 := blk_cell hh 7 _ rfl
  have hhl := blk_lt hh
  clear hh
  clear hX
  go_simp
  all_goals (obtain ⟨a0, a1, a2, a3, a4, a5, a6⟩ := LB.out; omega)
 try simp only [Act.put, zA, zB, zC]
 have CFn : ∀ (args : Array Value) (W : World), Sem.run Tryz.prog (callFunc 59 args) W = .ok (.enter 59 args) W := fun _ _ => by kernel_rfl
 refine tG 30 (Str f6) (some 53) (GK.grow _) rfl (yieldsG_call 59 #[.int .i64 r.n] (by rfl) ?_ (fun X hS => I5.out X)) (GK.drop (by simp)) ?_
 ·intro X hX
  clear hX
  go_simp
 clear CFn
 try simp only [Act.put, zA, zB, zC]
 refine tG 31 (.string (((((((((((((⟨f0.toArray⟩ : ByteArray) ++ ⟨#[32]⟩) ++ (⟨f1.toArray⟩ : ByteArray)) ++ ⟨#[32]⟩) ++ (⟨f2.toArray⟩ : ByteArray)) ++ ⟨#[32]⟩) ++ (⟨f3.toArray⟩ : ByteArray)) ++ ⟨#[32]⟩) ++ (⟨f4.toArray⟩ : ByteArray)) ++ ⟨#[32]⟩) ++ (⟨f5.toArray⟩ : ByteArray)) ++ ⟨#[32]⟩) ++ (⟨f6.toArray⟩ : ByteArray))) (some 54) (GK.grow _) rfl (YieldsIf.toG (Or.inl ⟨by rfl, ?_⟩)) (GK.drop (by simp)) ?_
 ·intro X hX
  clear hX
  go_simp
  all_goals (obtain ⟨a0, a1, a2, a3, a4, a5, a6⟩ := LB.out; omega)
 try simp only [Act.put, zA, zB, zC]
 refine tG 32 (.string ((((((((((((((⟨f0.toArray⟩ : ByteArray) ++ ⟨#[32]⟩) ++ (⟨f1.toArray⟩ : ByteArray)) ++ ⟨#[32]⟩) ++ (⟨f2.toArray⟩ : ByteArray)) ++ ⟨#[32]⟩) ++ (⟨f3.toArray⟩ : ByteArray)) ++ ⟨#[32]⟩) ++ (⟨f4.toArray⟩ : ByteArray)) ++ ⟨#[32]⟩) ++ (⟨f5.toArray⟩ : ByteArray)) ++ ⟨#[32]⟩) ++ (⟨f6.toArray⟩ : ByteArray)) ++ ⟨#[10]⟩)) (some 55) (GK.grow _) rfl (YieldsIf.toG (Or.inl ⟨by rfl, ?_⟩)) (GK.drop (by simp)) ?_
 ·intro X hX
  clear hX
  go_simp
  all_goals (obtain ⟨a0, a1, a2, a3, a4, a5, a6⟩ := LB.out; omega)
 try simp only [Act.put, zA, zB, zC]
 refine tG 33 (.string ((((((((((((((⟨f0.toArray⟩ : ByteArray) ++ ⟨#[32]⟩) ++ (⟨f1.toArray⟩ : ByteArray)) ++ ⟨#[32]⟩) ++ (⟨f2.toArray⟩ : ByteArray)) ++ ⟨#[32]⟩) ++ (⟨f3.toArray⟩ : ByteArray)) ++ ⟨#[32]⟩) ++ (⟨f4.toArray⟩ : ByteArray)) ++ ⟨#[32]⟩) ++ (⟨f5.toArray⟩ : ByteArray)) ++ ⟨#[32]⟩) ++ (⟨f6.toArray⟩ : ByteArray)) ++ ⟨#[10]⟩)) (some 2) (GK.grow _) rfl (YieldsIf.toG (Or.inl ⟨by rfl, ?_⟩)) (GK.drop (by simp)) ?_
 ·intro X hX
  clear hX
  go_simp
  all_goals (obtain ⟨a0, a1, a2, a3, a4, a5, a6⟩ := LB.out; omega)
 try simp only [Act.put, zA, zB, zC]
 clear HAL
 refine done_G (by kernel_rfl) (fun X6 hX => ?_) _
 replace NN := Lib.hid (Bgo NN.out hX)
 replace V := Lib.hid (blk_next hX V.out)
 clear hX
 go_wp2_with fail
 exact bodyPost_ret (v := .string ((((((((⟨f0.toArray⟩ : ByteArray) ++ ⟨#[32]⟩ ++ ⟨f1.toArray⟩) ++ ⟨#[32]⟩ ++ ⟨f2.toArray⟩) ++ ⟨#[32]⟩ ++ ⟨f3.toArray⟩) ++ ⟨#[32]⟩ ++ ⟨f4.toArray⟩) ++ ⟨#[32]⟩ ++ ⟨f5.toArray⟩) ++ ⟨#[32]⟩ ++ ⟨f6.toArray⟩) ++ ⟨#[10]⟩)) (by simp [results, Tryz.results32, go_sem]) rfl ⟨by simp only [show (⟨#[32]⟩ : ByteArray) = ⟨[32].toArray⟩ from rfl, show (⟨#[10]⟩ : ByteArray) = ⟨[10].toArray⟩ from rfl, cat2]; simp [Lib.join, List.intercalate], NN.out⟩
end Go.Proofs.YtbbnkclajpaghaaGreatDoor
namespace Go.Proofs.YtbbnkclajpaghaaGreatDoor
open Go Go.RowKit
set_option linter.unusedVariables false
set_option maxRecDepth 100000
section
variable {P : Program} {ops : Array Oper} {Q : Exit → Act → World → Prop} {md : Region.Mode} {S : Nat → World → Prop}
end
def SZ (L : List (Nat × Addr × Value)) (C : List (Nat × Option Addr × List Nat)) (k : Nat) (X : World) : Prop := (∀ p ∈ L, p.1 = k → p.2.1.block < X.heap.size ∧ X.cell? p.2.1 = some p.2.2) ∧ ∀ p ∈ C, p.1 ≠ k
theorem SZ.next {L : List (Nat × Addr × Value)} {C : List (Nat × Option Addr × List Nat)} {k : Nat} {X Y : World} (h : SZ L C k X) (hb : Below X.heap.size X Y) : SZ L C k Y := by
 refine ⟨fun p hp e => ?_, h.2⟩
 obtain ⟨h1, h2⟩ := h.1 p hp e
 exact ⟨Nat.lt_of_lt_of_le h1 hb.size, (hb.cell h1).trans h2⟩
theorem SZ.drop {L : List (Nat × Addr × Value)} {C : List (Nat × Option Addr × List Nat)} {k : Nat} {X : World} (h : ∀ p ∈ L, p.1 ≠ k) (h2 : ∀ p ∈ C, p.1 ≠ k) : SZ L C k X := ⟨fun p hp e => absurd e (h p hp), h2⟩
end Go.Proofs.YtbbnkclajpaghaaGreatDoor
namespace Go.Proofs.YtbbnkclajpaghaaGreatDoor
open Go.ChangeShapes Go.WideShapes Go.ChangeAt Go.RowKit
set_option linter.unusedVariables false
set_option maxRecDepth 100000
set_option linter.unusedSimpArgs false
set_option maxRecDepth 100000 in
set_option maxHeartbeats 8000000 in
theorem refchk_calls {A : Option Addr} {c : Nat} {l : List Vr} {w : World} (hl : RT w A l) (hc : l.length ≤ c) (hc' : c ≤ 9223372036854775807) : Calls Tryz.prog 17 #[.slice A l.length c] w fun e w' =>
  e = .returned (.int .i64 (chkE l)) ∧ Below w.heap.size w w' := by
 have HL := Lib.hid hl
 have NN := Lib.hid (Below.refl w.heap.size w)
 clear hl
 by_cases h2 : 200 < l.length
 ·have FV : Hid (chkE l = 4) := Lib.hid (by unfold chkE; rw [if_pos h2])
  generalize chkE l = v at *
  go_enter Tryz.func17, Tryz.ntmps17
  go_wp2_with fail
  go_ret
  exact ⟨ret_int FV.out.symm, NN.out⟩
 have FV : Hid (chkE l = if goodB l then 0 else 8) := Lib.hid (by unfold chkE; rw [if_neg h2])
 generalize chkE l = v at *
 go_enter Tryz.func17, Tryz.ntmps17
 go_wp2_with fail
 go_loopw [3] (fun p wr => ∃ k : Nat, k ≤ l.length ∧ p = .int .i64 k ∧ Hid (Below w.heap.size w wr) ∧ Hid (goodB (l.take k) = true)) (fun p _ => l.length - (intOf p).toNat)
 case atStart => exact ⟨0, Nat.zero_le _, rfl, NN, Lib.hid rfl⟩
 case round =>
  clear NN
  obtain ⟨k, hk, rfl, NN, HG⟩ := hrel
  by_cases hlt : l.length ≤ k
  ·have e : k = l.length := by omega
   subst e
   have HR : Hid (v = 0) := Lib.hid (by rw [FV.out, ← List.take_length (l := l), HG.out]; rfl)
   clear hk hlt
   go_wp2_with fail
   go_ret
   exact ⟨ret_int HR.out.symm, NN.out⟩
  replace hlt : k < l.length := by omega
  obtain ⟨b, off, eA, bl, a0, a1, a2, a3, a4, a5, a6, a7⟩ := RT.at_ HL.out hlt
  have HVC := Lib.hid (refvalid_calls (rowAt l k))
  have HGT := Lib.hid (good_take hlt HG.out)
  have HRA := Lib.hid (rowAt_lt hlt)
  rw [← rowAt_lt hlt] at a0 a1 a2 a3 a4 a5 a6 a7
  generalize hr : rowAt l k = r at *
  have BL := Lib.hid bl
  subst eA
  have HC : Hid (∀ X : World, Below w.heap.size w X → b < X.heap.size ∧ X.cell? ⟨b, off + k * 8, none⟩ = some (.int .i64 r.t) ∧ X.cell? ⟨b, off + k * 8 + 1, none⟩ = some (.int .i64 r.c) ∧ X.cell? ⟨b, off + k * 8 + 2, none⟩ = some (.int .i64 r.i) ∧ X.cell? ⟨b, off + k * 8 + 3, none⟩ = some (.int .i64 r.j) ∧ X.cell? ⟨b, off + k * 8 + 4, none⟩ = some (.int .i64 r.re) ∧ X.cell? ⟨b, off + k * 8 + 5, none⟩ = some (.int .i64 r.im) ∧ X.cell? ⟨b, off + k * 8 + 6, none⟩ = some (.int .i64 r.dn) ∧ X.cell? ⟨b, off + k * 8 + 7, none⟩ = some (.int .i64 r.n)) :=
   Lib.hid (fun X hX => ⟨Nat.lt_of_lt_of_le bl hX.size, (hX.cell (p := ⟨b, off + k * 8, none⟩) bl).trans a0, (hX.cell (p := ⟨b, off + k * 8 + 1, none⟩) bl).trans a1, (hX.cell (p := ⟨b, off + k * 8 + 2, none⟩) bl).trans a2, (hX.cell (p := ⟨b, off + k * 8 + 3, none⟩) bl).trans a3, (hX.cell (p := ⟨b, off + k * 8 + 4, none⟩) bl).trans a4, (hX.cell (p := ⟨b, off + k * 8 + 5, none⟩) bl).trans a5, (hX.cell (p := ⟨b, off + k * 8 + 6, none⟩) bl).trans a6, (hX.cell (p := ⟨b, off + k * 8 + 7, none⟩) bl).trans a7⟩)
  clear a0 a1 a2 a3 a4 a5 a6 a7 bl
  have hck : k < c := by omega
  obtain ⟨lb, b0, b1, b2, b3, b4, b5, b6, b7⟩ := HC.out wr NN.out
  go_wp2_with fail
  refine (HVC.out _).mono ?_
  rintro e w1 ⟨rfl, hb⟩
  replace NN := Lib.hid (Bgo NN.out hb)
  clear lb b0 b1 b2 b3 b4 b5 b6 b7 hb
  cases hB : rowB r
  ·have HR : Hid (v = 8) := Lib.hid (by rw [FV.out, good_prefix (k + 1) (by rw [HGT.out, hB]; rfl)]; rfl)
   clear hB
   go_wp2_with fail
   go_ret
   exact ⟨ret_int HR.out.symm, NN.out⟩
  have HRB := Lib.hid hB
  rw [hB, Bool.true_and] at HGT
  clear hB
  go_wp2_with fail
  by_cases h0 : k = 0
  ·have HGN : Hid (goodB (List.take (k + 1) l) = true) := Lib.hid (by rw [HGT.out, h0]; rfl)
   have d0 : decide (0 < k) = false := decide_eq_false (by omega)
   clear HGT h0
   go_quiet (fail)
   go_wp2_with fail
   refine ⟨⟨k + 1, by omega, by go_num, Lib.hid (below_drewN NN.out _), HGN⟩, by simp [intOf]; omega⟩
  obtain ⟨m, hkm⟩ : ∃ m, k = m + 1 := ⟨k - 1, by omega⟩
  have HSB := Lib.hid (good_last (by omega) HG.out (by omega : 0 < k))
  have HS2 : Hid (lastR l k = rowAt l m) := Lib.hid (by rw [hkm]; rfl)
  rw [HS2.out] at HSB HGT
  rw [decide_eq_false h0, Bool.false_or] at HGT
  have hml : m < l.length := by omega
  obtain ⟨b', off', eA, bl', e0, e1, e2, e3, e4, e5, e6, e7⟩ := RT.at_ HL.out hml
  injection eA with eA
  injection eA with eA1 eA2
  subst eA1 eA2
  rw [← rowAt_lt hml] at e0 e1 e2 e3 e4 e5 e6 e7
  generalize hs : rowAt l m = s at *
  have KR : Hid (∀ X : World, Calls Tryz.prog 19 #[Rwv r] X fun e w' => e = .returned (.int .i64 (vkey r)) ∧ Below X.heap.size X w') := Lib.hid (key_calls r HRB.out)
  have KS : Hid (∀ X : World, Calls Tryz.prog 19 #[Rwv s] X fun e w' => e = .returned (.int .i64 (vkey s)) ∧ Below X.heap.size X w') := Lib.hid (key_calls s HSB.out)
  generalize vkey s = ks at *
  generalize vkey r = kr at *
  have BN := NN.out
  obtain ⟨lb, b0, b1, b2, b3, b4, b5, b6, b7⟩ := HC.out w1 BN
  replace e0 := (BN.cell (p := ⟨b, off + m * 8, none⟩) bl').trans e0
  replace e1 := (BN.cell (p := ⟨b, off + m * 8 + 1, none⟩) bl').trans e1
  replace e2 := (BN.cell (p := ⟨b, off + m * 8 + 2, none⟩) bl').trans e2
  replace e3 := (BN.cell (p := ⟨b, off + m * 8 + 3, none⟩) bl').trans e3
  replace e4 := (BN.cell (p := ⟨b, off + m * 8 + 4, none⟩) bl').trans e4
  replace e5 := (BN.cell (p := ⟨b, off + m * 8 + 5, none⟩) bl').trans e5
  replace e6 := (BN.cell (p := ⟨b, off + m * 8 + 6, none⟩) bl').trans e6
  replace e7 := (BN.cell (p := ⟨b, off + m * 8 + 7, none⟩) bl').trans e7
  have d0 : decide (0 < k) = true := decide_eq_true (by omega)
  have d1 : (0 < k) = True := by simp; omega
  have hw : IntKind.i64.wrap ((k : Int) - 1) = (m : Int) := by rw [hkm]; rw [IntWalk.i64_in _ (by omega)]; omega
  have hmc : m < c := by omega
  clear BN hs hr hkm HS2 h0 bl'
  have HHC := HC
  clear HC
  have HDRW := Lib.hid (Below.drew (Below.refl w1.heap.size w1))
  replace NN := Lib.hid (Bgo NN.out HDRW.out)
  clear HDRW
  have HAL : Hid (∀ kx9 : Nat, SZ [(7, ⟨b, off + m * 8, none⟩, .int .i64 s.t), (7, ⟨b, off + m * 8 + 1, none⟩, .int .i64 s.c), (7, ⟨b, off + m * 8 + 2, none⟩, .int .i64 s.i), (7, ⟨b, off + m * 8 + 3, none⟩, .int .i64 s.j), (7, ⟨b, off + m * 8 + 4, none⟩, .int .i64 s.re), (7, ⟨b, off + m * 8 + 5, none⟩, .int .i64 s.im), (7, ⟨b, off + m * 8 + 6, none⟩, .int .i64 s.dn), (7, ⟨b, off + m * 8 + 7, none⟩, .int .i64 s.n), (12, ⟨b, off + k * 8, none⟩, .int .i64 r.t), (12, ⟨b, off + k * 8 + 1, none⟩, .int .i64 r.c), (12, ⟨b, off + k * 8 + 2, none⟩, .int .i64 r.i), (12, ⟨b, off + k * 8 + 3, none⟩, .int .i64 r.j), (12, ⟨b, off + k * 8 + 4, none⟩, .int .i64 r.re), (12, ⟨b, off + k * 8 + 5, none⟩, .int .i64 r.im), (12, ⟨b, off + k * 8 + 6, none⟩, .int .i64 r.dn), (12, ⟨b, off + k * 8 + 7, none⟩, .int .i64 r.n)] [] kx9 w1.drew) := Lib.hid (fun kx9 => by
   constructor
   ·intro p hp e
    simp only [List.mem_cons, List.not_mem_nil, or_false] at hp
    rcases hp with rfl | rfl | rfl | rfl | rfl | rfl | rfl | rfl | rfl | rfl | rfl | rfl | rfl | rfl | rfl | rfl
    ·exact ⟨lb, e0⟩
    ·exact ⟨lb, e1⟩
    ·exact ⟨lb, e2⟩
    ·exact ⟨lb, e3⟩
    ·exact ⟨lb, e4⟩
    ·exact ⟨lb, e5⟩
    ·exact ⟨lb, e6⟩
    ·exact ⟨lb, e7⟩
    ·exact ⟨lb, b0⟩
    ·exact ⟨lb, b1⟩
    ·exact ⟨lb, b2⟩
    ·exact ⟨lb, b3⟩
    ·exact ⟨lb, b4⟩
    ·exact ⟨lb, b5⟩
    ·exact ⟨lb, b6⟩
    ·exact ⟨lb, b7⟩
   ·intro p hp e
    exact absurd hp (by simp)
   )
  refine region_I (S := SZ [(7, ⟨b, off + m * 8, none⟩, .int .i64 s.t), (7, ⟨b, off + m * 8 + 1, none⟩, .int .i64 s.c), (7, ⟨b, off + m * 8 + 2, none⟩, .int .i64 s.i), (7, ⟨b, off + m * 8 + 3, none⟩, .int .i64 s.j), (7, ⟨b, off + m * 8 + 4, none⟩, .int .i64 s.re), (7, ⟨b, off + m * 8 + 5, none⟩, .int .i64 s.im), (7, ⟨b, off + m * 8 + 6, none⟩, .int .i64 s.dn), (7, ⟨b, off + m * 8 + 7, none⟩, .int .i64 s.n), (12, ⟨b, off + k * 8, none⟩, .int .i64 r.t), (12, ⟨b, off + k * 8 + 1, none⟩, .int .i64 r.c), (12, ⟨b, off + k * 8 + 2, none⟩, .int .i64 r.i), (12, ⟨b, off + k * 8 + 3, none⟩, .int .i64 r.j), (12, ⟨b, off + k * 8 + 4, none⟩, .int .i64 r.re), (12, ⟨b, off + k * 8 + 5, none⟩, .int .i64 r.im), (12, ⟨b, off + k * 8 + 6, none⟩, .int .i64 r.dn), (12, ⟨b, off + k * 8 + 7, none⟩, .int .i64 r.n)] []) (by kernel_rfl) ?_
  refine take_I 0 (.int .i64 (k : Int)) (some 19) rfl (by kernel_rfl) (by kernel_rfl) (by kernel_rfl) rfl (fun _ _ _ h => h) (Or.inl ⟨by rfl, ?_⟩) (SZ.drop (by simp) (by simp)) ?_
  ·intro X hX
   clear hX
   go_simp
  try simp only [Act.put, zA, zB, zC]
  refine take_I 1 (.bool true) (some 20) rfl (by kernel_rfl) (by kernel_rfl) (by kernel_rfl) rfl (fun _ _ _ h => h) (Or.inl ⟨by rfl, ?_⟩) (SZ.drop (by simp) (by simp)) ?_
  ·intro X hX
   clear hX
   go_simp
  try simp only [Act.put, zA, zB, zC]
  refine take_I 2 (.bool true) (some 21) rfl (by kernel_rfl) (by kernel_rfl) (by kernel_rfl) rfl (fun _ _ _ h => h) (Or.inl ⟨by rfl, ?_⟩) (SZ.drop (by simp) (by simp)) ?_
  ·intro X hX
   clear hX
   go_simp
  try simp only [Act.put, zA, zB, zC]
  refine take_I 3 (.slice (some ⟨b, off, none⟩) l.length c) (some 22) rfl (by kernel_rfl) (by kernel_rfl) (by kernel_rfl) rfl (fun _ _ _ h => h) (Or.inl ⟨by rfl, ?_⟩) (SZ.drop (by simp) (by simp)) ?_
  ·intro X hX
   clear hX
   go_simp
  try simp only [Act.put, zA, zB, zC]
  refine take_I 4 (.int .i64 (k : Int)) (some 23) rfl (by kernel_rfl) (by kernel_rfl) (by kernel_rfl) rfl (fun _ _ _ h => h) (Or.inl ⟨by rfl, ?_⟩) (SZ.drop (by simp) (by simp)) ?_
  ·intro X hX
   clear hX
   go_simp
  try simp only [Act.put, zA, zB, zC]
  refine take_I 5 (.int .i64 (m : Int)) (some 24) rfl (by kernel_rfl) (by kernel_rfl) (by kernel_rfl) rfl (fun _ _ _ h => h) (Or.inl ⟨by rfl, ?_⟩) (SZ.drop (by simp) (by simp)) ?_
  ·intro X hX
   clear hX
   go_simp
  try simp only [Act.put, zA, zB, zC]
  refine take_I 6 (.pointer (some ⟨b, off + m * 8, none⟩)) (some 25) rfl (by kernel_rfl) (by kernel_rfl) (by kernel_rfl) rfl (fun _ _ _ h => h) (Or.inl ⟨by rfl, ?_⟩) (SZ.drop (by simp) (by simp)) ?_
  ·intro X hX
   clear hX
   go_simp
  try simp only [Act.put, zA, zB, zC]
  refine take_I 7 (.agg #[.int .i64 s.t, .int .i64 s.c, .int .i64 s.i, .int .i64 s.j, .int .i64 s.re, .int .i64 s.im, .int .i64 s.dn, .int .i64 s.n]) (some 26) rfl (by kernel_rfl) (by kernel_rfl) (by kernel_rfl) rfl (fun _ _ _ h => h) (Or.inl ⟨by rfl, ?_⟩) (HAL.out 7) ?_
  ·intro X hX
   obtain ⟨hz0, hc0⟩ := hX.1 (7, ⟨b, off + m * 8, none⟩, .int .i64 s.t) (List.Mem.head _) rfl
   simp only at hz0 hc0
   obtain ⟨hz1, hc1⟩ := hX.1 (7, ⟨b, off + m * 8 + 1, none⟩, .int .i64 s.c) (List.Mem.tail _ (List.Mem.head _)) rfl
   simp only at hz1 hc1
   obtain ⟨hz2, hc2⟩ := hX.1 (7, ⟨b, off + m * 8 + 2, none⟩, .int .i64 s.i) (List.Mem.tail _ (List.Mem.tail _ (List.Mem.head _))) rfl
   simp only at hz2 hc2
   obtain ⟨hz3, hc3⟩ := hX.1 (7, ⟨b, off + m * 8 + 3, none⟩, .int .i64 s.j) (List.Mem.tail _ (List.Mem.tail _ (List.Mem.tail _ (List.Mem.head _)))) rfl
   simp only at hz3 hc3
   obtain ⟨hz4, hc4⟩ := hX.1 (7, ⟨b, off + m * 8 + 4, none⟩, .int .i64 s.re) (List.Mem.tail _ (List.Mem.tail _ (List.Mem.tail _ (List.Mem.tail _ (List.Mem.head _))))) rfl
   simp only at hz4 hc4
   obtain ⟨hz5, hc5⟩ := hX.1 (7, ⟨b, off + m * 8 + 5, none⟩, .int .i64 s.im) (List.Mem.tail _ (List.Mem.tail _ (List.Mem.tail _ (List.Mem.tail _ (List.Mem.tail _ (List.Mem.head _)))))) rfl
   simp only at hz5 hc5
   obtain ⟨hz6, hc6⟩ := hX.1 (7, ⟨b, off + m * 8 + 6, none⟩, .int .i64 s.dn) (List.Mem.tail _ (List.Mem.tail _ (List.Mem.tail _ (List.Mem.tail _ (List.Mem.tail _ (List.Mem.tail _ (List.Mem.head _))))))) rfl
   simp only at hz6 hc6
   obtain ⟨hz7, hc7⟩ := hX.1 (7, ⟨b, off + m * 8 + 7, none⟩, .int .i64 s.n) (List.Mem.tail _ (List.Mem.tail _ (List.Mem.tail _ (List.Mem.tail _ (List.Mem.tail _ (List.Mem.tail _ (List.Mem.tail _ (List.Mem.head _)))))))) rfl
   simp only at hz7 hc7
   clear hX
   go_simp
  try simp only [Act.put, zA, zB, zC]
  refine take_I 9 (.slice (some ⟨b, off, none⟩) l.length c) (some 28) rfl (by kernel_rfl) (by kernel_rfl) (by kernel_rfl) rfl (fun _ _ _ h => h) (Or.inl ⟨by rfl, ?_⟩) (SZ.drop (by simp) (by simp)) ?_
  ·intro X hX
   clear hX
   go_simp
  try simp only [Act.put, zA, zB, zC]
  refine take_I 10 (.int .i64 (k : Int)) (some 29) rfl (by kernel_rfl) (by kernel_rfl) (by kernel_rfl) rfl (fun _ _ _ h => h) (Or.inl ⟨by rfl, ?_⟩) (SZ.drop (by simp) (by simp)) ?_
  ·intro X hX
   clear hX
   go_simp
  try simp only [Act.put, zA, zB, zC]
  refine take_I 11 (.pointer (some ⟨b, off + k * 8, none⟩)) (some 30) rfl (by kernel_rfl) (by kernel_rfl) (by kernel_rfl) rfl (fun _ _ _ h => h) (Or.inl ⟨by rfl, ?_⟩) (SZ.drop (by simp) (by simp)) ?_
  ·intro X hX
   clear hX
   go_simp
  try simp only [Act.put, zA, zB, zC]
  refine take_I 12 (.agg #[.int .i64 r.t, .int .i64 r.c, .int .i64 r.i, .int .i64 r.j, .int .i64 r.re, .int .i64 r.im, .int .i64 r.dn, .int .i64 r.n]) (some 31) rfl (by kernel_rfl) (by kernel_rfl) (by kernel_rfl) rfl (fun _ _ _ h => h) (Or.inl ⟨by rfl, ?_⟩) (HAL.out 12) ?_
  ·intro X hX
   obtain ⟨hz8, hc8⟩ := hX.1 (12, ⟨b, off + k * 8, none⟩, .int .i64 r.t) (List.Mem.tail _ (List.Mem.tail _ (List.Mem.tail _ (List.Mem.tail _ (List.Mem.tail _ (List.Mem.tail _ (List.Mem.tail _ (List.Mem.tail _ (List.Mem.head _))))))))) rfl
   simp only at hz8 hc8
   obtain ⟨hz9, hc9⟩ := hX.1 (12, ⟨b, off + k * 8 + 1, none⟩, .int .i64 r.c) (List.Mem.tail _ (List.Mem.tail _ (List.Mem.tail _ (List.Mem.tail _ (List.Mem.tail _ (List.Mem.tail _ (List.Mem.tail _ (List.Mem.tail _ (List.Mem.tail _ (List.Mem.head _)))))))))) rfl
   simp only at hz9 hc9
   obtain ⟨hz10, hc10⟩ := hX.1 (12, ⟨b, off + k * 8 + 2, none⟩, .int .i64 r.i) (List.Mem.tail _ (List.Mem.tail _ (List.Mem.tail _ (List.Mem.tail _ (List.Mem.tail _ (List.Mem.tail _ (List.Mem.tail _ (List.Mem.tail _ (List.Mem.tail _ (List.Mem.tail _ (List.Mem.head _))))))))))) rfl
   simp only at hz10 hc10
   obtain ⟨hz11, hc11⟩ := hX.1 (12, ⟨b, off + k * 8 + 3, none⟩, .int .i64 r.j) (List.Mem.tail _ (List.Mem.tail _ (List.Mem.tail _ (List.Mem.tail _ (List.Mem.tail _ (List.Mem.tail _ (List.Mem.tail _ (List.Mem.tail _ (List.Mem.tail _ (List.Mem.tail _ (List.Mem.tail _ (List.Mem.head _)))))))))))) rfl
   simp only at hz11 hc11
   obtain ⟨hz12, hc12⟩ := hX.1 (12, ⟨b, off + k * 8 + 4, none⟩, .int .i64 r.re) (List.Mem.tail _ (List.Mem.tail _ (List.Mem.tail _ (List.Mem.tail _ (List.Mem.tail _ (List.Mem.tail _ (List.Mem.tail _ (List.Mem.tail _ (List.Mem.tail _ (List.Mem.tail _ (List.Mem.tail _ (List.Mem.tail _ (List.Mem.head _))))))))))))) rfl
   simp only at hz12 hc12
   obtain ⟨hz13, hc13⟩ := hX.1 (12, ⟨b, off + k * 8 + 5, none⟩, .int .i64 r.im) (List.Mem.tail _ (List.Mem.tail _ (List.Mem.tail _ (List.Mem.tail _ (List.Mem.tail _ (List.Mem.tail _ (List.Mem.tail _ (List.Mem.tail _ (List.Mem.tail _ (List.Mem.tail _ (List.Mem.tail _ (List.Mem.tail _ (List.Mem.tail _ (List.Mem.head _)))))))))))))) rfl
   simp only at hz13 hc13
   obtain ⟨hz14, hc14⟩ := hX.1 (12, ⟨b, off + k * 8 + 6, none⟩, .int .i64 r.dn) (List.Mem.tail _ (List.Mem.tail _ (List.Mem.tail _ (List.Mem.tail _ (List.Mem.tail _ (List.Mem.tail _ (List.Mem.tail _ (List.Mem.tail _ (List.Mem.tail _ (List.Mem.tail _ (List.Mem.tail _ (List.Mem.tail _ (List.Mem.tail _ (List.Mem.tail _ (List.Mem.head _))))))))))))))) rfl
   simp only at hz14 hc14
   obtain ⟨hz15, hc15⟩ := hX.1 (12, ⟨b, off + k * 8 + 7, none⟩, .int .i64 r.n) (List.Mem.tail _ (List.Mem.tail _ (List.Mem.tail _ (List.Mem.tail _ (List.Mem.tail _ (List.Mem.tail _ (List.Mem.tail _ (List.Mem.tail _ (List.Mem.tail _ (List.Mem.tail _ (List.Mem.tail _ (List.Mem.tail _ (List.Mem.tail _ (List.Mem.tail _ (List.Mem.tail _ (List.Mem.head _)))))))))))))))) rfl
   simp only at hz15 hc15
   clear hX
   go_simp
  try simp only [Act.put, zA, zB, zC]
  refine only_I 8 (by kernel_rfl) rfl (fun K' hK' => ?_)
  go_simp
  go_at_call 19
  refine (KS.out _).mono ?_
  rintro e x1 ⟨rfl, hb⟩
  replace NN := Lib.hid (Bgo NN.out hb)
  go_simp
  refine hK'.out _ _ (fun _ _ hS => hS.next hb) ?_
  clear hK' K'
  try simp only [Act.put, zA, zB, zC]
  replace HAL := Lib.hid (fun kx9 => (HAL.out kx9).next hb)
  clear hb
  refine only_I 13 (by kernel_rfl) rfl (fun K' hK' => ?_)
  go_simp
  go_at_call 19
  refine (KR.out _).mono ?_
  rintro e x2 ⟨rfl, hb⟩
  replace NN := Lib.hid (Bgo NN.out hb)
  go_simp
  refine hK'.out _ _ (fun _ _ hS => hS.next hb) ?_
  clear hK' K'
  try simp only [Act.put, zA, zB, zC]
  replace HAL := Lib.hid (fun kx9 => (HAL.out kx9).next hb)
  clear hb
  refine take_I 14 (.bool (decide (kr ≤ ks))) (some 33) rfl (by kernel_rfl) (by kernel_rfl) (by kernel_rfl) rfl (fun _ _ _ h => h) (Or.inl ⟨by rfl, ?_⟩) (SZ.drop (by simp) (by simp)) ?_
  ·intro X hX
   clear hX
   go_simp
  try simp only [Act.put, zA, zB, zC]
  refine take_I 15 (.bool (decide (kr ≤ ks))) (some 34) rfl (by kernel_rfl) (by kernel_rfl) (by kernel_rfl) rfl (fun _ _ _ h => h) (Or.inl ⟨by rfl, ?_⟩) (SZ.drop (by simp) (by simp)) ?_
  ·intro X hX
   clear hX
   go_simp
  try simp only [Act.put, zA, zB, zC]
  clear HAL
  refine done_I (by kernel_rfl) ?_ _
  clear d0 d1 hw
  by_cases hx : ks < kr
  ·have d2 : decide (kr ≤ ks) = false := decide_eq_false (by omega)
   have HGN : Hid (goodB (List.take (k + 1) l) = true) := Lib.hid (by rw [HGT.out]; exact decide_eq_true hx)
   clear HGT
   go_wp2_with fail
   all_goals first | (exfalso; omega; done) | (refine ⟨⟨k + 1, by omega, by go_num, NN, HGN⟩, by simp [intOf]; omega⟩)
  ·have d2 : decide (kr ≤ ks) = true := decide_eq_true (by omega)
   have HR : Hid (v = 8) := Lib.hid (by rw [FV.out, good_prefix (k + 1) (by rw [HGT.out]; exact decide_eq_false hx)]; rfl)
   clear HGT
   go_wp2_with fail
   all_goals first | (exfalso; omega; done) | (go_ret; exact ⟨ret_int HR.out.symm, NN.out⟩)
end Go.Proofs.YtbbnkclajpaghaaGreatDoor
