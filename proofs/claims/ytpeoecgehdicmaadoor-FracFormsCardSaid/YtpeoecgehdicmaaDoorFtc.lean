/- Contracts of layer 1: Parse of the program. -/
import Derived.Test.YtpeoecgehdicmaaDoorFtb
namespace Go.Proofs.YtpeoecgehdicmaaDoor
open Go.ChangeShapes Go.WideShapes Go.ChangeAt Go.RowKit
set_option linter.unusedVariables false
attribute [local go_sem ↓] Go.wp_at_zero Go.wp_at_succ

theorem PR.none {l : List UInt8} (h : ∀ n d, VF n d → textL n d ≠ l) : PR l (0, 0, 12) := .inr ⟨rfl, h⟩
theorem PR.some {l : List UInt8} {n d : Int} (h1 : errF n d = 0) (h2 : txR n d = l) : PR l (n, d, 0) := by
  refine .inl ⟨rfl, errF_ok h1, ?_⟩
  unfold txR at h2
  rwa [if_pos h1] at h2
theorem VF.itoaN {n d : Int} (v : VF n d) : Lib.parseIntB 64 (Lib.itoa n) = .ok n := parseI_itoa (by have := v.n1; omega) (by have := v.n2; omega)
theorem VF.itoaD {n d : Int} (v : VF n d) : Lib.parseIntB 64 (Lib.itoa d) = .ok d := parseI_itoa (by have := v.d1; omega) (by have := v.d2; omega)
theorem VF.tx {n d : Int} (v : VF n d) : txR n d = textL n d := by unfold txR; rw [if_pos v.err]
theorem s_len (s : ByteArray) : s.data.toList.length = s.size := by rw [Array.length_toList]; rfl

set_option maxRecDepth 100000 in
set_option maxHeartbeats 8000000 in
theorem parseP_calls (s : ByteArray) (w : World) (g : GL w) :
    Calls Tryd.prog 12 #[.string s] w fun e w' => ∃ r, e = .returned (Rv r) ∧ PR s.data.toList r ∧ Below w.heap.size w w' := by
  have G := Lib.hid g
  clear g
  have SL := s_len s
  by_cases big : 40 < s.size
  · have NO := Lib.hid (PR.none (l := s.data.toList) (fun n d v h => by have := text_len v; rw [h] at this; omega))
    clear SL
    have bg : decide ((40 : Int) < (s.size : Int)) = true := decide_eq_true (by omega)
    go_enter Tryd.func12, Tryd.ntmps12
    go_wp2_with fail
    have K := Lib.hid (blk_new w (.cells #[.int .i64 0, .int .i64 0] 23))
    have NN := Lib.hid (Bal (Below.refl w.heap.size w) (.cells #[.int .i64 0, .int .i64 0] 23))
    refine bodyPost_ret (v := Rv (0, 0, 12)) (by simp [results, Tryd.results12, go_sem]) rfl ⟨_, rfl, NO.out, by first | exact NN.out | exact Bset1 (Bset1 NN.out (Nat.le_refl _) _ _) (Nat.le_refl _) _ _⟩
  have bg : decide ((40 : Int) < (s.size : Int)) = false := decide_eq_false (by omega)
  have CC := Lib.hid (fun W (h : GL W) => cutS_calls s W (by omega) h)
  have CT : Hid (∀ n d, VF n d → textL n d = s.data.toList → Lib.cut s.data.toList [47] = (Lib.itoa n, if d = 1 then [] else Lib.itoa d, !decide (d = 1))) := Lib.hid (fun n d v h => by rw [← h, cut_text])
  have LL : (Lib.cut s.data.toList [47]).1.length ≤ 40 ∧ (Lib.cut s.data.toList [47]).2.1.length ≤ 40 := by
    unfold Lib.cut; split <;> simp <;> omega
  obtain ⟨⟨la, lb, f⟩, hc⟩ : ∃ r, Lib.cut s.data.toList [47] = r := ⟨_, rfl⟩
  rw [hc] at CC CT LL
  clear hc
  obtain ⟨ll1, ll2⟩ := LL
  have P1 := Lib.hid (fun W (h : GL W) => parse_calls ⟨la.toArray⟩ W (by have := s_len ⟨la.toArray⟩; simp at this ll1; omega) h)
  have P2 := Lib.hid (fun W (h : GL W) => parse_calls ⟨lb.toArray⟩ W (by have := s_len ⟨lb.toArray⟩; simp at this ll2; omega) h)
  rw [show (⟨la.toArray⟩ : ByteArray).data.toList = la by simp] at P1
  rw [show (⟨lb.toArray⟩ : ByteArray).data.toList = lb by simp] at P2
  clear big SL ll1 ll2
  go_enter Tryd.func12, Tryd.ntmps12
  go_wp2_with fail
  have K := Lib.hid (blk_new w (.cells #[.int .i64 0, .int .i64 0] 23))
  have NN := Lib.hid (Bal (Below.refl w.heap.size w) (.cells #[.int .i64 0, .int .i64 0] 23))
  replace G := Lib.hid (G.out.next NN.out)
  generalize w.alloc (.cells #[.int .i64 0, .int .i64 0] 23) = W0 at *
  refine (CC.out _ G.out).mono ?_
  rintro e w1 ⟨rfl, hb⟩
  replace NN := Lib.hid (Bgo NN.out hb)
  replace K := Lib.hid (blk_next hb K.out)
  replace G := Lib.hid (G.out.next hb)
  clear hb
  clear CC
  go_wp2_with fail
  refine (P1.out _ G.out).mono ?_
  clear P1
  rintro e w2 (⟨num, pn, n1, n2, rfl, hb⟩ | ⟨pn, v2, t2, p2, rfl, hb⟩)
  rotate_left
  · have NO := Lib.hid (PR.none (l := s.data.toList) (fun n d v h => by have := CT.out n d v h; simp only [Prod.mk.injEq] at this; exact pn n (by rw [this.1]; exact v.itoaN)))
    clear pn CT
    replace NN := Lib.hid (Bgo NN.out hb)
    replace K := Lib.hid (blk_next hb K.out)
    replace G := Lib.hid (G.out.next hb)
    clear hb
    have z0 := blk_cell K.out 0 _ rfl
    have z1 := blk_cell K.out 1 _ rfl
    have f0 := blk_frozen K.out 0
    have f1 := blk_frozen K.out 1
    have zl := blk_lt K.out
    go_wp2_with fail
    have e1 := blk_cell (blk_set (blk_set K.out 0 (.int .i64 0)) 1 (.int .i64 0)) 0 _ rfl
    have e2 := blk_cell (blk_set (blk_set K.out 0 (.int .i64 0)) 1 (.int .i64 0)) 1 _ rfl
    refine bodyPost_ret (v := Rv (0, 0, 12)) (by simp [results, Tryd.results12, go_sem, e1, e2]) rfl ⟨_, rfl, NO.out, Bset1 (Bset1 NN.out (Nat.le_refl _) _ _) (Nat.le_refl _) _ _⟩
  replace NN := Lib.hid (Bgo NN.out hb)
  replace K := Lib.hid (blk_next hb K.out)
  replace G := Lib.hid (G.out.next hb)
  clear hb
  have PN := Lib.hid pn
  clear pn
  cases f with
  | true =>
    go_wp2_with fail
    refine (P2.out _ G.out).mono ?_
    clear P2
    rintro e w3 (⟨den, pd, d1, d2, rfl, hb⟩ | ⟨pd, v3, t3, p3, rfl, hb⟩)
    rotate_left
    · have NO := Lib.hid (PR.none (l := s.data.toList) (fun n d v h => by
        have := CT.out n d v h; simp only [Prod.mk.injEq] at this
        have hd : ¬ d = 1 := by have := this.2.2; simpa using this
        rw [if_neg hd] at this
        exact pd d (by rw [this.2.1]; exact v.itoaD)))
      clear pd CT
      replace NN := Lib.hid (Bgo NN.out hb)
      replace K := Lib.hid (blk_next hb K.out)
      replace G := Lib.hid (G.out.next hb)
      clear hb
      have z0 := blk_cell K.out 0 _ rfl
      have z1 := blk_cell K.out 1 _ rfl
      have f0 := blk_frozen K.out 0
      have f1 := blk_frozen K.out 1
      have zl := blk_lt K.out
      go_wp2_with fail
      have e1 := blk_cell (blk_set (blk_set K.out 0 (.int .i64 0)) 1 (.int .i64 0)) 0 _ rfl
      have e2 := blk_cell (blk_set (blk_set K.out 0 (.int .i64 0)) 1 (.int .i64 0)) 1 _ rfl
      refine bodyPost_ret (v := Rv (0, 0, 12)) (by simp [results, Tryd.results12, go_sem, e1, e2]) rfl ⟨_, rfl, NO.out, Bset1 (Bset1 NN.out (Nat.le_refl _) _ _) (Nat.le_refl _) _ _⟩
    · have UN : Hid (∀ n d, VF n d → textL n d = s.data.toList → errF num den = 0 ∧ txR num den = s.data.toList) := Lib.hid (fun n d v h => by
        have := CT.out n d v h; simp only [Prod.mk.injEq] at this
        have hd : ¬ d = 1 := by have := this.2.2; simpa using this
        rw [if_neg hd] at this
        have en := PN.out
        rw [this.1, v.itoaN] at en
        rw [this.2.1, v.itoaD] at pd
        cases en; cases pd
        exact ⟨v.err, by rw [v.tx]; exact h⟩)
      clear pd CT PN
      replace NN := Lib.hid (Bgo NN.out hb)
      replace K := Lib.hid (blk_next hb K.out)
      replace G := Lib.hid (G.out.next hb)
      clear hb
      have TC := Lib.hid (fun W (h : GL W) => text_calls num den W h)
      have OKR := Lib.hid (fun (h1 : errF num den = 0) (h2 : txR num den = s.data.toList) => PR.some h1 h2)
      obtain ⟨tx, htx⟩ : ∃ z, txR num den = z := ⟨_, rfl⟩
      obtain ⟨er, her⟩ : ∃ z, errF num den = z := ⟨_, rfl⟩
      rw [htx, her] at TC OKR UN
      clear htx her
      have HB : Hid (Below w3.heap.size w3 (w3.alloc (.cells #[.int .i64 num, .int .i64 den] 23))) := Lib.hid (Bal (Below.refl _ _) _)
      have A := Lib.hid (blk_new w3 (.cells #[.int .i64 num, .int .i64 den] 23))
      replace NN := Lib.hid (Bgo NN.out HB.out)
      replace K := Lib.hid (blk_next HB.out K.out)
      replace G := Lib.hid (G.out.next HB.out)
      clear HB
      go_wp2_with fail
      generalize w3.alloc (.cells #[.int .i64 num, .int .i64 den] 23) = W4 at *
      generalize w3.heap.size = ga at *
      refine (TC.out _ G.out).mono ?_
      rintro e w5 ⟨rfl, hb⟩
      replace A := Lib.hid (blk_next hb A.out)
      replace NN := Lib.hid (Bgo NN.out hb)
      replace K := Lib.hid (blk_next hb K.out)
      replace G := Lib.hid (G.out.next hb)
      clear hb
      clear TC
      have z0 := blk_cell K.out 0 _ rfl
      have z1 := blk_cell K.out 1 _ rfl
      have f0 := blk_frozen K.out 0
      have f1 := blk_frozen K.out 1
      have zl := blk_lt K.out
      have a0 := blk_cell A.out 0 _ rfl
      have a1 := blk_cell A.out 1 _ rfl
      have al := blk_lt A.out
      by_cases ez : er = 0
      rotate_left
      · have ez' : (er != 0) = true := by rw [bne_iff_ne]; exact ez
        have NO := Lib.hid (PR.none (l := s.data.toList) (fun n d v h => ez (UN.out n d v h).1))
        clear UN OKR ez
        go_wp2_with fail
        have e1 := blk_cell (blk_set (blk_set K.out 0 (.int .i64 0)) 1 (.int .i64 0)) 0 _ rfl
        have e2 := blk_cell (blk_set (blk_set K.out 0 (.int .i64 0)) 1 (.int .i64 0)) 1 _ rfl
        refine bodyPost_ret (v := Rv (0, 0, 12)) (by simp [results, Tryd.results12, go_sem, e1, e2]) rfl ⟨_, rfl, NO.out, Bset1 (Bset1 NN.out (Nat.le_refl _) _ _) (Nat.le_refl _) _ _⟩
      subst ez
      by_cases et : tx = s.data.toList
      rotate_left
      · have et' : (tx == s.toList) = false := by rw [ByteArray.toList_eq, beq_eq_false_iff_ne]; exact et
        have NO := Lib.hid (PR.none (l := s.data.toList) (fun n d v h => et (UN.out n d v h).2))
        clear UN OKR et
        go_wp2_with fail
        have e1 := blk_cell (blk_set (blk_set K.out 0 (.int .i64 0)) 1 (.int .i64 0)) 0 _ rfl
        have e2 := blk_cell (blk_set (blk_set K.out 0 (.int .i64 0)) 1 (.int .i64 0)) 1 _ rfl
        refine bodyPost_ret (v := Rv (0, 0, 12)) (by simp [results, Tryd.results12, go_sem, e1, e2]) rfl ⟨_, rfl, NO.out, Bset1 (Bset1 NN.out (Nat.le_refl _) _ _) (Nat.le_refl _) _ _⟩
      have R := Lib.hid (OKR.out rfl et)
      have et' : (tx == s.toList) = true := by rw [ByteArray.toList_eq, et]; exact beq_self_eq_true _
      clear UN OKR et
      go_wp2_with fail
      have e1 := blk_cell (blk_set (blk_set K.out 0 (.int .i64 num)) 1 (.int .i64 den)) 0 _ rfl
      have e2 := blk_cell (blk_set (blk_set K.out 0 (.int .i64 num)) 1 (.int .i64 den)) 1 _ rfl
      refine bodyPost_ret (v := Rv (num, den, 0)) (by simp [results, Tryd.results12, go_sem, e1, e2]) rfl ⟨_, rfl, R.out, Bset1 (Bset1 NN.out (Nat.le_refl _) _ _) (Nat.le_refl _) _ _⟩
  | false =>
    have UN : Hid (∀ n d, VF n d → textL n d = s.data.toList → errF num 1 = 0 ∧ txR num 1 = s.data.toList) := Lib.hid (fun n d v h => by
        have := CT.out n d v h; simp only [Prod.mk.injEq] at this
        have hd : d = 1 := by have := this.2.2; simpa using this
        subst hd
        have en := PN.out
        rw [this.1, v.itoaN] at en
        cases en
        exact ⟨v.err, by rw [v.tx]; exact h⟩)
    clear CT PN P2
    have TC := Lib.hid (fun W (h : GL W) => text_calls num 1 W h)
    have OKR := Lib.hid (fun (h1 : errF num 1 = 0) (h2 : txR num 1 = s.data.toList) => PR.some h1 h2)
    obtain ⟨tx, htx⟩ : ∃ z, txR num 1 = z := ⟨_, rfl⟩
    obtain ⟨er, her⟩ : ∃ z, errF num 1 = z := ⟨_, rfl⟩
    rw [htx, her] at TC OKR UN
    clear htx her
    have HB : Hid (Below w2.heap.size w2 (w2.alloc (.cells #[.int .i64 num, .int .i64 1] 23))) := Lib.hid (Bal (Below.refl _ _) _)
    have A := Lib.hid (blk_new w2 (.cells #[.int .i64 num, .int .i64 1] 23))
    replace NN := Lib.hid (Bgo NN.out HB.out)
    replace K := Lib.hid (blk_next HB.out K.out)
    replace G := Lib.hid (G.out.next HB.out)
    clear HB
    go_wp2_with fail
    generalize w2.alloc (.cells #[.int .i64 num, .int .i64 1] 23) = W4 at *
    generalize w2.heap.size = ga at *
    refine (TC.out _ G.out).mono ?_
    rintro e w5 ⟨rfl, hb⟩
    replace A := Lib.hid (blk_next hb A.out)
    replace NN := Lib.hid (Bgo NN.out hb)
    replace K := Lib.hid (blk_next hb K.out)
    replace G := Lib.hid (G.out.next hb)
    clear hb
    clear TC
    have z0 := blk_cell K.out 0 _ rfl
    have z1 := blk_cell K.out 1 _ rfl
    have f0 := blk_frozen K.out 0
    have f1 := blk_frozen K.out 1
    have zl := blk_lt K.out
    have a0 := blk_cell A.out 0 _ rfl
    have a1 := blk_cell A.out 1 _ rfl
    have al := blk_lt A.out
    by_cases ez : er = 0
    rotate_left
    · have ez' : (er != 0) = true := by rw [bne_iff_ne]; exact ez
      have NO := Lib.hid (PR.none (l := s.data.toList) (fun n d v h => ez (UN.out n d v h).1))
      clear UN OKR ez
      go_wp2_with fail
      have e1 := blk_cell (blk_set (blk_set K.out 0 (.int .i64 0)) 1 (.int .i64 0)) 0 _ rfl
      have e2 := blk_cell (blk_set (blk_set K.out 0 (.int .i64 0)) 1 (.int .i64 0)) 1 _ rfl
      refine bodyPost_ret (v := Rv (0, 0, 12)) (by simp [results, Tryd.results12, go_sem, e1, e2]) rfl ⟨_, rfl, NO.out, Bset1 (Bset1 NN.out (Nat.le_refl _) _ _) (Nat.le_refl _) _ _⟩
    subst ez
    by_cases et : tx = s.data.toList
    rotate_left
    · have et' : (tx == s.toList) = false := by rw [ByteArray.toList_eq, beq_eq_false_iff_ne]; exact et
      have NO := Lib.hid (PR.none (l := s.data.toList) (fun n d v h => et (UN.out n d v h).2))
      clear UN OKR et
      go_wp2_with fail
      have e1 := blk_cell (blk_set (blk_set K.out 0 (.int .i64 0)) 1 (.int .i64 0)) 0 _ rfl
      have e2 := blk_cell (blk_set (blk_set K.out 0 (.int .i64 0)) 1 (.int .i64 0)) 1 _ rfl
      refine bodyPost_ret (v := Rv (0, 0, 12)) (by simp [results, Tryd.results12, go_sem, e1, e2]) rfl ⟨_, rfl, NO.out, Bset1 (Bset1 NN.out (Nat.le_refl _) _ _) (Nat.le_refl _) _ _⟩
    have R := Lib.hid (OKR.out rfl et)
    have et' : (tx == s.toList) = true := by rw [ByteArray.toList_eq, et]; exact beq_self_eq_true _
    clear UN OKR et
    go_wp2_with fail
    have e1 := blk_cell (blk_set (blk_set K.out 0 (.int .i64 num)) 1 (.int .i64 1)) 0 _ rfl
    have e2 := blk_cell (blk_set (blk_set K.out 0 (.int .i64 num)) 1 (.int .i64 1)) 1 _ rfl
    refine bodyPost_ret (v := Rv (num, 1, 0)) (by simp [results, Tryd.results12, go_sem, e1, e2]) rfl ⟨_, rfl, R.out, Bset1 (Bset1 NN.out (Nat.le_refl _) _ _) (Nat.le_refl _) _ _⟩
end Go.Proofs.YtpeoecgehdicmaaDoor
