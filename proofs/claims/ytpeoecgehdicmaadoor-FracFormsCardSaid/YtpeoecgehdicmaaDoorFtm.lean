/- Contract of layer 1: Parse of the reference. -/
import Derived.Test.YtpeoecgehdicmaaDoorFtl
namespace Go.Proofs.YtpeoecgehdicmaaDoor
open Go.ChangeShapes Go.WideShapes Go.ChangeAt Go.RowKit
set_option linter.unusedVariables false
attribute [local go_sem ↓] Go.wp_at_zero Go.wp_at_succ

def PUP (l : List UInt8) (w : World) (e : Ending) (w' : World) : Prop := ∃ r, e = .returned (Rv r) ∧ PR l r ∧ Below w.heap.size w w'
theorem ext_take (s : ByteArray) (k : Nat) : (s.extract 0 k).data.toList = s.data.toList.take k := by simp [ByteArray.data_extract, Array.toList_extract]
theorem ext_drop (s : ByteArray) (k : Nat) : (s.extract k s.size).data.toList = s.data.toList.drop k := by
  rw [ByteArray.data_extract, Array.toList_extract, List.extract_eq_take_drop, List.take_of_length_le]
  rw [List.length_drop, s_len]
  omega
theorem split_47 {l : List UInt8} {k : Nat} {c : UInt8} (h : l[k]? = some c) (hc : c.toNat = 47) : l.take k ++ 47 :: l.drop (k + 1) = l := by
  have hb' : c = 47 := UInt8.toNat_inj.1 hc
  subst hb'
  obtain ⟨h1, h2⟩ := List.getElem?_eq_some_iff.1 h
  have := List.drop_eq_getElem_cons h1
  rw [h2] at this
  rw [← this, List.take_append_drop]
set_option maxRecDepth 100000 in
set_option maxHeartbeats 8000000 in
theorem refParse_calls (s : ByteArray) (w : World) (hs : s.size ≤ 200) :
    Calls Tryd.prog 13 #[.string s] w (PUP s.data.toList w) := by
  have SL := s_len s
  have SG := Lib.hid (fun k (h : k < s.size) => str_get s k h)
  have T1 := Lib.hid (fun k => ext_take s k)
  have T2 := Lib.hid (fun k => ext_drop s k)
  obtain ⟨l, hl⟩ : ∃ l, s.data.toList = l := ⟨_, rfl⟩
  rw [hl] at SL SG T1 T2 ⊢
  have LE := Lib.hid SL
  clear SL
  have s2 : s.size ≤ 9223372036854775807 := by omega
  go_enter Tryd.func13, Tryd.ntmps13
  go_wp2_with fail
  have NN := Lib.hid (Bal (Below.refl w.heap.size w) (.cells #[.int .i64 0, .int .i64 0] 23))
  have K := Lib.hid (blk_new w (.cells #[.int .i64 0, .int .i64 0] 23))
  generalize w.alloc (.cells #[.int .i64 0, .int .i64 0] 23) = W0 at *
  go_loop [4] (fun i => ∃ k : Nat, k ≤ s.size ∧ i = .int .i64 k ∧ Hid (∀ (j : Nat) (c : UInt8), j < k → l[j]? = some c → c.toNat ≠ 47)) (fun i => s.size - (intOf i).toNat)
  case atStart => exact ⟨0, by omega, rfl, Lib.hid (fun j c h => by omega)⟩
  case round =>
    obtain ⟨k, hk, rfl, NO⟩ := hrel
    by_cases go : ∃ h : k < s.size, s[k].toNat ≠ 47
    · obtain ⟨hlt, hc⟩ := go
      have e1 : ((s[k].toNat : Int) != 47) = true := by rw [bne_iff_ne]; omega
      have z1 : decide ((0 : Int) ≤ (k : Int)) = true := decide_eq_true (by omega)
      have N2 : Hid (∀ (j : Nat) (c : UInt8), j < k + 1 → l[j]? = some c → c.toNat ≠ 47) := Lib.hid (fun j c h hj => by
        by_cases e : j = k
        · subst e
          rw [SG.out j hlt] at hj
          cases hj; exact hc
        · exact NO.out j c (by omega) hj)
      have kk : k + 1 ≤ s.size := hlt
      clear hc NO
      go_wp2_with fail
      go_round
      case rel => exact ⟨k + 1, kk, by go_num, N2⟩
      case measure => simp [intOf]; omega
    · have CS := Lib.hid (cut_split l k NO.out (fun h => ⟨s[k]'(by rw [← LE.out]; exact h), SG.out k _, by
        by_cases h' : (s[k]'(by rw [← LE.out]; exact h)).toNat = 47
        · exact h'
        · exact absurd ⟨_, h'⟩ go⟩) (by rw [LE.out]; exact hk))
      have N1 := Lib.hid (fun W => number_calls (s.extract 0 k) W (by rw [← s_len, T1.out, List.length_take]; omega))
      rw [T1.out] at N1
      clear NO
      by_cases hlt : k < s.size
      · have e1 : ((s[k].toNat : Int) != 47) = false := by
          rw [bne_eq_false_iff_eq]
          by_cases h' : s[k].toNat = 47
          · omega
          · exact absurd ⟨hlt, h'⟩ go
        have S47 := Lib.hid (split_47 (SG.out k hlt) (by
          by_cases h' : s[k].toNat = 47
          · exact h'
          · exact absurd ⟨hlt, h'⟩ go))
        have CS1 := CS.out
        rw [decide_eq_true (show k < l.length by rw [LE.out]; exact hlt)] at CS1
        have HC := Lib.hid CS1
        have N2 := Lib.hid (fun W => number_calls (s.extract (k + 1) s.size) W (by rw [← s_len, T2.out, List.length_drop, LE.out]; omega))
        rw [T2.out] at N2
        clear CS1 CS go
        go_wp2_with fail
        refine (N1.out _).mono ?_
        rintro e w1 ⟨n, b, rfl, R1, hb⟩
        replace NN := Lib.hid (Bgo NN.out hb)
        replace K := Lib.hid (blk_next hb K.out)
        clear hb
        have HR1 := Lib.hid R1
        clear R1 N1
        have GK := blk_lt K.out
        have HB : Hid (Below w1.heap.size w1 (w1.alloc (.cells #[.int .i64 n, .int .i64 1] 23))) := Lib.hid (Bal (Below.refl _ _) _)
        have A := Lib.hid (blk_new w1 (.cells #[.int .i64 n, .int .i64 1] 23))
        replace NN := Lib.hid (Bgo NN.out HB.out)
        replace K := Lib.hid (blk_next HB.out K.out)
        have GA : Hid (w.heap.size < w1.heap.size) := Lib.hid GK
        clear HB GK
        have kk : k + 1 ≤ s.size := hlt
        have kz : (0 : Int) ≤ (k : Int) + 1 := by omega
        go_wp2_with fail
        generalize w1.alloc (.cells #[.int .i64 n, .int .i64 1] 23) = W2 at *
        generalize w1.heap.size = gA at *
        refine (N2.out _).mono ?_
        rintro e w3 ⟨d, b', rfl, R2, hb⟩
        replace NN := Lib.hid (Bgo NN.out hb)
        replace K := Lib.hid (blk_next hb K.out)
        replace A := Lib.hid (blk_next hb A.out)
        clear hb
        have RES := Lib.hid (PR.cut1 HC.out HR1.out R2 S47.out)
        have CH := Lib.hid (fun W => refCheck_calls n d W)
        clear R2 HR1 HC N2 S47
        have kc0 := blk_cell K.out 0 _ rfl
        have kc1 := blk_cell K.out 1 _ rfl
        have kf0 := blk_frozen K.out 0
        have kf1 := blk_frozen K.out 1
        have kl := blk_lt K.out
        have ac0 := blk_cell A.out 0 _ rfl
        have ac1 := blk_cell A.out 1 _ rfl
        have af0 := blk_frozen A.out 0
        have af1 := blk_frozen A.out 1
        have al := blk_lt A.out
        have hgA := GA.out
        have gne : gA ≠ w.heap.size := by omega
        have K3 := Lib.hid (blk_set_other K.out gne 1 (.int .i64 d))
        have A3 := Lib.hid (blk_set A.out 1 (.int .i64 d))
        have N3 := Lib.hid (Bset1 NN.out (show w.heap.size ≤ gA by omega) 1 (.int .i64 d))
        cases b with
        | false =>
          have PB : Hid (PR l (0, 0, 12)) := Lib.hid (by have := RES.out; rwa [if_neg (fun h => absurd h.1.1 (by decide))] at this)
          clear RES CH
          go_wp2_with fail
          have e1 := blk_cell (blk_set (blk_set (K3.out) 0 (.int .i64 0)) 1 (.int .i64 0)) 0 _ rfl
          have e2 := blk_cell (blk_set (blk_set (K3.out) 0 (.int .i64 0)) 1 (.int .i64 0)) 1 _ rfl
          exact bodyPost_ret (v := Rv (0, 0, 12)) (by simp [results, Tryd.results13, go_sem, e1, e2]) rfl ⟨_, rfl, PB.out, Bset1 (Bset1 (N3.out) (Nat.le_refl _) _ _) (Nat.le_refl _) _ _⟩
        | true =>
        cases b' with
        | false =>
          have PB : Hid (PR l (0, 0, 12)) := Lib.hid (by have := RES.out; rwa [if_neg (fun h => absurd h.1.2.1 (by decide))] at this)
          clear RES CH
          go_wp2_with fail
          have e1 := blk_cell (blk_set (blk_set (K3.out) 0 (.int .i64 0)) 1 (.int .i64 0)) 0 _ rfl
          have e2 := blk_cell (blk_set (blk_set (K3.out) 0 (.int .i64 0)) 1 (.int .i64 0)) 1 _ rfl
          exact bodyPost_ret (v := Rv (0, 0, 12)) (by simp [results, Tryd.results13, go_sem, e1, e2]) rfl ⟨_, rfl, PB.out, Bset1 (Bset1 (N3.out) (Nat.le_refl _) _ _) (Nat.le_refl _) _ _⟩
        | true =>
        by_cases c1 : 1 < d
        rotate_left
        · have d1 : decide ((1 : Int) < d) = false := decide_eq_false c1
          have PB : Hid (PR l (0, 0, 12)) := Lib.hid (by have := RES.out; rwa [if_neg (fun h => c1 h.1.2.2)] at this)
          clear RES CH
          go_wp2_with fail
          have e1 := blk_cell (blk_set (blk_set (K3.out) 0 (.int .i64 0)) 1 (.int .i64 0)) 0 _ rfl
          have e2 := blk_cell (blk_set (blk_set (K3.out) 0 (.int .i64 0)) 1 (.int .i64 0)) 1 _ rfl
          exact bodyPost_ret (v := Rv (0, 0, 12)) (by simp [results, Tryd.results13, go_sem, e1, e2]) rfl ⟨_, rfl, PB.out, Bset1 (Bset1 (N3.out) (Nat.le_refl _) _ _) (Nat.le_refl _) _ _⟩
        have d1 : decide ((1 : Int) < d) = true := decide_eq_true c1
        by_cases ck : errF n d = 0
        rotate_left
        · have ck' : (errF n d != 0) = true := by rw [bne_iff_ne]; exact ck
          have PB : Hid (PR l (0, 0, 12)) := Lib.hid (by have := RES.out; rwa [if_neg (fun h => ck h.2)] at this)
          generalize errF n d = er at *
          clear RES ck
          go_wp2_with fail
          refine (CH.out _).mono ?_
          rintro e w5 ⟨rfl, hb⟩
          have K5 := Lib.hid (blk_next hb (K3.out))
          have N5 := Lib.hid (Bgo (N3.out) hb)
          clear hb
          clear kc0 kc1 kf0 kf1 kl ac0 ac1 af0 af1 al
          have k5c0 := blk_cell K5.out 0 _ rfl
          have k5c1 := blk_cell K5.out 1 _ rfl
          have k5f0 := blk_frozen K5.out 0
          have k5f1 := blk_frozen K5.out 1
          have k5l := blk_lt K5.out
          go_wp2_with fail
          have e1 := blk_cell (blk_set (blk_set (K5.out) 0 (.int .i64 0)) 1 (.int .i64 0)) 0 _ rfl
          have e2 := blk_cell (blk_set (blk_set (K5.out) 0 (.int .i64 0)) 1 (.int .i64 0)) 1 _ rfl
          exact bodyPost_ret (v := Rv (0, 0, 12)) (by simp [results, Tryd.results13, go_sem, e1, e2]) rfl ⟨_, rfl, PB.out, Bset1 (Bset1 (N5.out) (Nat.le_refl _) _ _) (Nat.le_refl _) _ _⟩
        have PB : Hid (PR l (n, d, 0)) := Lib.hid (by have := RES.out; rwa [if_pos ⟨⟨rfl, rfl, c1⟩, ck⟩] at this)
        rw [ck] at CH
        clear RES ck
        go_wp2_with fail
        refine (CH.out _).mono ?_
        rintro e w5 ⟨rfl, hb⟩
        have K5 := Lib.hid (blk_next hb (K3.out))
        have A5 := Lib.hid (blk_next hb (A3.out))
        have N5 := Lib.hid (Bgo (N3.out) hb)
        clear hb
        clear kc0 kc1 kf0 kf1 kl ac0 ac1 af0 af1 al
        have k5c0 := blk_cell K5.out 0 _ rfl
        have k5c1 := blk_cell K5.out 1 _ rfl
        have k5f0 := blk_frozen K5.out 0
        have k5f1 := blk_frozen K5.out 1
        have k5l := blk_lt K5.out
        have a5c0 := blk_cell A5.out 0 _ rfl
        have a5c1 := blk_cell A5.out 1 _ rfl
        have a5l := blk_lt A5.out
        go_wp2_with fail
        have e1 := blk_cell (blk_set (blk_set (K5.out) 0 (.int .i64 n)) 1 (.int .i64 d)) 0 _ rfl
        have e2 := blk_cell (blk_set (blk_set (K5.out) 0 (.int .i64 n)) 1 (.int .i64 d)) 1 _ rfl
        exact bodyPost_ret (v := Rv (n, d, 0)) (by simp [results, Tryd.results13, go_sem, e1, e2]) rfl ⟨_, rfl, PB.out, Bset1 (Bset1 (N5.out) (Nat.le_refl _) _ _) (Nat.le_refl _) _ _⟩
      · have CS1 := CS.out
        rw [decide_eq_false (show ¬ k < l.length by rw [LE.out]; exact hlt)] at CS1
        have HC := Lib.hid CS1
        have TK : Hid (l.take k = l) := Lib.hid (by rw [List.take_of_length_le (by rw [LE.out]; omega)])
        clear CS1 CS go
        have ke : decide (k < s.size) = false := decide_eq_false (by omega)
        go_wp2_with fail
        refine (N1.out _).mono ?_
        rintro e w1 ⟨n, b, rfl, R1, hb⟩
        replace NN := Lib.hid (Bgo NN.out hb)
        replace K := Lib.hid (blk_next hb K.out)
        clear hb
        have RES := Lib.hid (PR.cut0 HC.out R1 TK.out)
        have CH := Lib.hid (fun W => refCheck_calls n 1 W)
        clear R1 N1 HC TK
        have GK := blk_lt K.out
        cases b with
        | false =>
          have PB : Hid (PR l (0, 0, 12)) := Lib.hid (by have := RES.out; rwa [if_neg (fun h => absurd h.1 (by decide))] at this)
          clear RES CH
          have kc0 := blk_cell K.out 0 _ rfl
          have kc1 := blk_cell K.out 1 _ rfl
          have kf0 := blk_frozen K.out 0
          have kf1 := blk_frozen K.out 1
          have kl := blk_lt K.out
          go_wp2_with fail
          have e1 := blk_cell (blk_alloc (blk_set (blk_set K.out 0 (.int .i64 0)) 1 (.int .i64 0)) (.cells #[.int .i64 n, .int .i64 1] 23)) 0 _ rfl
          have e2 := blk_cell (blk_alloc (blk_set (blk_set K.out 0 (.int .i64 0)) 1 (.int .i64 0)) (.cells #[.int .i64 n, .int .i64 1] 23)) 1 _ rfl
          exact bodyPost_ret (v := Rv (0, 0, 12)) (by simp [results, Tryd.results13, go_sem, e1, e2]) rfl ⟨_, rfl, PB.out, Bal (Bset1 (Bset1 NN.out (Nat.le_refl _) _ _) (Nat.le_refl _) _ _) _⟩
        | true =>
        have HB : Hid (Below w1.heap.size w1 (w1.alloc (.cells #[.int .i64 n, .int .i64 1] 23))) := Lib.hid (Bal (Below.refl _ _) _)
        have A := Lib.hid (blk_new w1 (.cells #[.int .i64 n, .int .i64 1] 23))
        replace NN := Lib.hid (Bgo NN.out HB.out)
        replace K := Lib.hid (blk_next HB.out K.out)
        have GA : Hid (w.heap.size < w1.heap.size) := Lib.hid GK
        clear HB GK
        have kc0 := blk_cell K.out 0 _ rfl
        have kc1 := blk_cell K.out 1 _ rfl
        have kf0 := blk_frozen K.out 0
        have kf1 := blk_frozen K.out 1
        have kl := blk_lt K.out
        have ac0 := blk_cell A.out 0 _ rfl
        have ac1 := blk_cell A.out 1 _ rfl
        have af0 := blk_frozen A.out 0
        have af1 := blk_frozen A.out 1
        have al := blk_lt A.out
        have hgA := GA.out
        by_cases ck : errF n 1 = 0
        rotate_left
        · have ck' : (errF n 1 != 0) = true := by rw [bne_iff_ne]; exact ck
          have PB : Hid (PR l (0, 0, 12)) := Lib.hid (by have := RES.out; rwa [if_neg (fun h => ck h.2)] at this)
          generalize errF n 1 = er at *
          clear RES ck
          go_wp2_with fail
          refine (CH.out _).mono ?_
          rintro e w5 ⟨rfl, hb⟩
          have K5 := Lib.hid (blk_next hb (K.out))
          have N5 := Lib.hid (Bgo (NN.out) hb)
          clear hb
          clear kc0 kc1 kf0 kf1 kl ac0 ac1 af0 af1 al
          have k5c0 := blk_cell K5.out 0 _ rfl
          have k5c1 := blk_cell K5.out 1 _ rfl
          have k5f0 := blk_frozen K5.out 0
          have k5f1 := blk_frozen K5.out 1
          have k5l := blk_lt K5.out
          go_wp2_with fail
          have e1 := blk_cell (blk_set (blk_set (K5.out) 0 (.int .i64 0)) 1 (.int .i64 0)) 0 _ rfl
          have e2 := blk_cell (blk_set (blk_set (K5.out) 0 (.int .i64 0)) 1 (.int .i64 0)) 1 _ rfl
          exact bodyPost_ret (v := Rv (0, 0, 12)) (by simp [results, Tryd.results13, go_sem, e1, e2]) rfl ⟨_, rfl, PB.out, Bset1 (Bset1 (N5.out) (Nat.le_refl _) _ _) (Nat.le_refl _) _ _⟩
        have PB : Hid (PR l (n, 1, 0)) := Lib.hid (by have := RES.out; rwa [if_pos ⟨rfl, ck⟩] at this)
        rw [ck] at CH
        clear RES ck
        go_wp2_with fail
        refine (CH.out _).mono ?_
        rintro e w5 ⟨rfl, hb⟩
        have K5 := Lib.hid (blk_next hb (K.out))
        have A5 := Lib.hid (blk_next hb (A.out))
        have N5 := Lib.hid (Bgo (NN.out) hb)
        clear hb
        clear kc0 kc1 kf0 kf1 kl ac0 ac1 af0 af1 al
        have k5c0 := blk_cell K5.out 0 _ rfl
        have k5c1 := blk_cell K5.out 1 _ rfl
        have k5f0 := blk_frozen K5.out 0
        have k5f1 := blk_frozen K5.out 1
        have k5l := blk_lt K5.out
        have a5c0 := blk_cell A5.out 0 _ rfl
        have a5c1 := blk_cell A5.out 1 _ rfl
        have a5l := blk_lt A5.out
        go_wp2_with fail
        have e1 := blk_cell (blk_set (blk_set (K5.out) 0 (.int .i64 n)) 1 (.int .i64 1)) 0 _ rfl
        have e2 := blk_cell (blk_set (blk_set (K5.out) 0 (.int .i64 n)) 1 (.int .i64 1)) 1 _ rfl
        exact bodyPost_ret (v := Rv (n, 1, 0)) (by simp [results, Tryd.results13, go_sem, e1, e2]) rfl ⟨_, rfl, PB.out, Bset1 (Bset1 (N5.out) (Nat.le_refl _) _ _) (Nat.le_refl _) _ _⟩
end Go.Proofs.YtpeoecgehdicmaaDoor
