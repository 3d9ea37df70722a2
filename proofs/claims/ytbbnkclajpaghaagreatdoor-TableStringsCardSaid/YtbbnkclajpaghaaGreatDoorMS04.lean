/- Several texts in one. -/
import Derived.StillTail
import Derived.Lib.ParseIntBTie
import Derived.Test.YtbbnkclajpaghaaGreatDoorMS01
import Derived.Test.YtbbnkclajpaghaaGreatDoorMS02
import Derived.Test.YtbbnkclajpaghaaGreatDoorMS03
namespace Go.Proofs.YtbbnkclajpaghaaGreatDoor
open Go.ChangeShapes Go.WideShapes Go.ChangeAt Go.RowKit
set_option linter.unusedVariables false
attribute [local go_sem ↓] Go.wp_at_zero Go.wp_at_succ
theorem PR.none {l : List UInt8} (h : ∀ n d, VF n d → textL n d ≠ l) : PR l (0, 0, 12) := .inr ⟨rfl, h⟩
theorem PR.some {l : List UInt8} {n d : Int} (h1 : errF n d = 0) (h2 : txR n d = l) : PR l (n, d, 0) := by
 refine .inl ⟨rfl, errF_ok h1, ?_⟩
 unfold txR at h2
 rwa [if_pos h1] at h2
theorem VF.itoaN {n d : Int} (v : VF n d) : Lib.parseIntB 64 (Lib.itoa n) = .ok n := parseI_itoa (by have := v.n1; omega) (by have := v.n2; omega)
theorem VF.itoaD {n d : Int} (v : VF n d) : Lib.parseIntB 64 (Lib.itoa d) = .ok d := parseI_itoa (by have := v.d1; omega) (by have := v.d2; omega)
theorem VF.tx {n d : Int} (v : VF n d) : txR n d = textL n d := by unfold txR; rw [if_pos v.err]
theorem s_len (s : ByteArray) : s.data.toList.length = s.size := by rw [Array.length_toList]; rfl
set_option maxRecDepth 100000 in
set_option maxHeartbeats 8000000 in
theorem parseP_calls (s : ByteArray) (w : World) (g : GL w) :
  Calls Tryz.prog 64 #[.string s] w fun e w' => ∃ r, e = .returned (Rv r) ∧ PR s.data.toList r ∧ Below w.heap.size w w' := by
 have G := Lib.hid g
 clear g
 have SL := s_len s
 by_cases big : 40 < s.size
 ·have NO := Lib.hid (PR.none (l := s.data.toList) (fun n d v h => by have := text_len v; rw [h] at this; omega))
  clear SL
  have bg : decide ((40 : Int) < (s.size : Int)) = true := decide_eq_true (by omega)
  go_enter Tryz.func64, Tryz.ntmps64
  go_wp2_with fail
  have K := Lib.hid (blk_new w (.cells #[.int .i64 0, .int .i64 0] 83))
  have NN := Lib.hid (Bal (Below.refl w.heap.size w) (.cells #[.int .i64 0, .int .i64 0] 83))
  refine bodyPost_ret (v := Rv (0, 0, 12)) (by simp [results, Tryz.results64, go_sem]) rfl ⟨_, rfl, NO.out, by first | exact NN.out | exact Bset1 (Bset1 NN.out (Nat.le_refl _) _ _) (Nat.le_refl _) _ _⟩
 have bg : decide ((40 : Int) < (s.size : Int)) = false := decide_eq_false (by omega)
 have CC := Lib.hid (fun W (h : GL W) => cutS_calls s W (by omega) h)
 have CT : Hid (∀ n d, VF n d → textL n d = s.data.toList → Lib.cut s.data.toList [47] = (Lib.itoa n, if d = 1 then [] else Lib.itoa d, !decide (d = 1))) := Lib.hid (fun n d v h => by rw [← h, cut_text])
 have LL : (Lib.cut s.data.toList [47]).1.length ≤ 40 ∧ (Lib.cut s.data.toList [47]).2.1.length ≤ 40 := by
  unfold Lib.cut; split <;> simp <;> omega
 obtain ⟨⟨la, lb, f⟩, hc⟩ : ∃ r, Lib.cut s.data.toList [47] = r := ⟨_, rfl⟩
 rw [hc] at CC CT LL
 clear hc
 obtain ⟨ll1, ll2⟩ := LL
 have P1 := Lib.hid (fun W (h : GL W) => parse_calls ⟨la.toArray⟩ W (by have := s_len ⟨la.toArray⟩; simp at this ll1; omega) h)
 have P2 := Lib.hid (fun W (h : GL W) => parse_calls ⟨lb.toArray⟩ W (by have := s_len ⟨lb.toArray⟩; simp at this ll2; omega) h)
 rw [show (⟨la.toArray⟩ : ByteArray).data.toList = la by simp] at P1
 rw [show (⟨lb.toArray⟩ : ByteArray).data.toList = lb by simp] at P2
 clear big SL ll1 ll2
 go_enter Tryz.func64, Tryz.ntmps64
 go_wp2_with fail
 have K := Lib.hid (blk_new w (.cells #[.int .i64 0, .int .i64 0] 83))
 have NN := Lib.hid (Bal (Below.refl w.heap.size w) (.cells #[.int .i64 0, .int .i64 0] 83))
 replace G := Lib.hid (G.out.next NN.out)
 generalize w.alloc (.cells #[.int .i64 0, .int .i64 0] 83) = W0 at *
 refine (CC.out _ G.out).mono ?_
 rintro e w1 ⟨rfl, hb⟩
 replace NN := Lib.hid (Bgo NN.out hb)
 replace K := Lib.hid (blk_next hb K.out)
 replace G := Lib.hid (G.out.next hb)
 clear hb
 clear CC
 go_wp2_with fail
 refine (P1.out _ G.out).mono ?_
 clear P1
 rintro e w2 (⟨num, pn, n1, n2, rfl, hb⟩ | ⟨pn, v2, t2, p2, rfl, hb⟩)
 rotate_left
 ·have NO := Lib.hid (PR.none (l := s.data.toList) (fun n d v h => by have := CT.out n d v h; simp only [Prod.mk.injEq] at this; exact pn n (by rw [this.1]; exact v.itoaN)))
  clear pn CT
  replace NN := Lib.hid (Bgo NN.out hb)
  replace K := Lib.hid (blk_next hb K.out)
  replace G := Lib.hid (G.out.next hb)
  clear hb
  have z0 := blk_cell K.out 0 _ rfl
  have z1 := blk_cell K.out 1 _ rfl
  have f0 := blk_frozen K.out 0
  have f1 := blk_frozen K.out 1
  have zl := blk_lt K.out
  go_wp2_with fail
  have e1 := blk_cell (blk_set (blk_set K.out 0 (.int .i64 0)) 1 (.int .i64 0)) 0 _ rfl
  have e2 := blk_cell (blk_set (blk_set K.out 0 (.int .i64 0)) 1 (.int .i64 0)) 1 _ rfl
  refine bodyPost_ret (v := Rv (0, 0, 12)) (by simp [results, Tryz.results64, go_sem, e1, e2]) rfl ⟨_, rfl, NO.out, Bset1 (Bset1 NN.out (Nat.le_refl _) _ _) (Nat.le_refl _) _ _⟩
 replace NN := Lib.hid (Bgo NN.out hb)
 replace K := Lib.hid (blk_next hb K.out)
 replace G := Lib.hid (G.out.next hb)
 clear hb
 have PN := Lib.hid pn
 clear pn
 cases f with
 | true =>
  go_wp2_with fail
  refine (P2.out _ G.out).mono ?_
  clear P2
  rintro e w3 (⟨den, pd, d1, d2, rfl, hb⟩ | ⟨pd, v3, t3, p3, rfl, hb⟩)
  rotate_left
  ·have NO := Lib.hid (PR.none (l := s.data.toList) (fun n d v h => by
    have := CT.out n d v h; simp only [Prod.mk.injEq] at this
    have hd : ¬ d = 1 := by have := this.2.2; simpa using this
    rw [if_neg hd] at this
    exact pd d (by rw [this.2.1]; exact v.itoaD)))
   clear pd CT
   replace NN := Lib.hid (Bgo NN.out hb)
   replace K := Lib.hid (blk_next hb K.out)
   replace G := Lib.hid (G.out.next hb)
   clear hb
   have z0 := blk_cell K.out 0 _ rfl
   have z1 := blk_cell K.out 1 _ rfl
   have f0 := blk_frozen K.out 0
   have f1 := blk_frozen K.out 1
   have zl := blk_lt K.out
   go_wp2_with fail
   have e1 := blk_cell (blk_set (blk_set K.out 0 (.int .i64 0)) 1 (.int .i64 0)) 0 _ rfl
   have e2 := blk_cell (blk_set (blk_set K.out 0 (.int .i64 0)) 1 (.int .i64 0)) 1 _ rfl
   refine bodyPost_ret (v := Rv (0, 0, 12)) (by simp [results, Tryz.results64, go_sem, e1, e2]) rfl ⟨_, rfl, NO.out, Bset1 (Bset1 NN.out (Nat.le_refl _) _ _) (Nat.le_refl _) _ _⟩
  ·have UN : Hid (∀ n d, VF n d → textL n d = s.data.toList → errF num den = 0 ∧ txR num den = s.data.toList) := Lib.hid (fun n d v h => by
    have := CT.out n d v h; simp only [Prod.mk.injEq] at this
    have hd : ¬ d = 1 := by have := this.2.2; simpa using this
    rw [if_neg hd] at this
    have en := PN.out
    rw [this.1, v.itoaN] at en
    rw [this.2.1, v.itoaD] at pd
    cases en; cases pd
    exact ⟨v.err, by rw [v.tx]; exact h⟩)
   clear pd CT PN
   replace NN := Lib.hid (Bgo NN.out hb)
   replace K := Lib.hid (blk_next hb K.out)
   replace G := Lib.hid (G.out.next hb)
   clear hb
   have TC := Lib.hid (fun W (h : GL W) => text_calls num den W h)
   have OKR := Lib.hid (fun (h1 : errF num den = 0) (h2 : txR num den = s.data.toList) => PR.some h1 h2)
   obtain ⟨tx, htx⟩ : ∃ z, txR num den = z := ⟨_, rfl⟩
   obtain ⟨er, her⟩ : ∃ z, errF num den = z := ⟨_, rfl⟩
   rw [htx, her] at TC OKR UN
   clear htx her
   have HB : Hid (Below w3.heap.size w3 (w3.alloc (.cells #[.int .i64 num, .int .i64 den] 83))) := Lib.hid (Bal (Below.refl _ _) _)
   have A := Lib.hid (blk_new w3 (.cells #[.int .i64 num, .int .i64 den] 83))
   replace NN := Lib.hid (Bgo NN.out HB.out)
   replace K := Lib.hid (blk_next HB.out K.out)
   replace G := Lib.hid (G.out.next HB.out)
   clear HB
   go_wp2_with fail
   generalize w3.alloc (.cells #[.int .i64 num, .int .i64 den] 83) = W4 at *
   generalize w3.heap.size = ga at *
   refine (TC.out _ G.out).mono ?_
   rintro e w5 ⟨rfl, hb⟩
   replace A := Lib.hid (blk_next hb A.out)
   replace NN := Lib.hid (Bgo NN.out hb)
   replace K := Lib.hid (blk_next hb K.out)
   replace G := Lib.hid (G.out.next hb)
   clear hb
   clear TC
   have z0 := blk_cell K.out 0 _ rfl
   have z1 := blk_cell K.out 1 _ rfl
   have f0 := blk_frozen K.out 0
   have f1 := blk_frozen K.out 1
   have zl := blk_lt K.out
   have a0 := blk_cell A.out 0 _ rfl
   have a1 := blk_cell A.out 1 _ rfl
   have al := blk_lt A.out
   by_cases ez : er = 0
   rotate_left
   ·have ez' : (er != 0) = true := by rw [bne_iff_ne]; exact ez
    have NO := Lib.hid (PR.none (l := s.data.toList) (fun n d v h => ez (UN.out n d v h).1))
    clear UN OKR ez
    go_wp2_with fail
    have e1 := blk_cell (blk_set (blk_set K.out 0 (.int .i64 0)) 1 (.int .i64 0)) 0 _ rfl
    have e2 := blk_cell (blk_set (blk_set K.out 0 (.int .i64 0)) 1 (.int .i64 0)) 1 _ rfl
    refine bodyPost_ret (v := Rv (0, 0, 12)) (by simp [results, Tryz.results64, go_sem, e1, e2]) rfl ⟨_, rfl, NO.out, Bset1 (Bset1 NN.out (Nat.le_refl _) _ _) (Nat.le_refl _) _ _⟩
   subst ez
   by_cases et : tx = s.data.toList
   rotate_left
   ·have et' : (tx == s.toList) = false := by rw [ByteArray.toList_eq, beq_eq_false_iff_ne]; exact et
    have NO := Lib.hid (PR.none (l := s.data.toList) (fun n d v h => et (UN.out n d v h).2))
    clear UN OKR et
    go_wp2_with fail
    have e1 := blk_cell (blk_set (blk_set K.out 0 (.int .i64 0)) 1 (.int .i64 0)) 0 _ rfl
    have e2 := blk_cell (blk_set (blk_set K.out 0 (.int .i64 0)) 1 (.int .i64 0)) 1 _ rfl
    refine bodyPost_ret (v := Rv (0, 0, 12)) (by simp [results, Tryz.results64, go_sem, e1, e2]) rfl ⟨_, rfl, NO.out, Bset1 (Bset1 NN.out (Nat.le_refl _) _ _) (Nat.le_refl _) _ _⟩
   have R := Lib.hid (OKR.out rfl et)
   have et' : (tx == s.toList) = true := by rw [ByteArray.toList_eq, et]; exact beq_self_eq_true _
   clear UN OKR et
   go_wp2_with fail
   have e1 := blk_cell (blk_set (blk_set K.out 0 (.int .i64 num)) 1 (.int .i64 den)) 0 _ rfl
   have e2 := blk_cell (blk_set (blk_set K.out 0 (.int .i64 num)) 1 (.int .i64 den)) 1 _ rfl
   refine bodyPost_ret (v := Rv (num, den, 0)) (by simp [results, Tryz.results64, go_sem, e1, e2]) rfl ⟨_, rfl, R.out, Bset1 (Bset1 NN.out (Nat.le_refl _) _ _) (Nat.le_refl _) _ _⟩
 | false =>
  have UN : Hid (∀ n d, VF n d → textL n d = s.data.toList → errF num 1 = 0 ∧ txR num 1 = s.data.toList) := Lib.hid (fun n d v h => by
    have := CT.out n d v h; simp only [Prod.mk.injEq] at this
    have hd : d = 1 := by have := this.2.2; simpa using this
    subst hd
    have en := PN.out
    rw [this.1, v.itoaN] at en
    cases en
    exact ⟨v.err, by rw [v.tx]; exact h⟩)
  clear CT PN P2
  have TC := Lib.hid (fun W (h : GL W) => text_calls num 1 W h)
  have OKR := Lib.hid (fun (h1 : errF num 1 = 0) (h2 : txR num 1 = s.data.toList) => PR.some h1 h2)
  obtain ⟨tx, htx⟩ : ∃ z, txR num 1 = z := ⟨_, rfl⟩
  obtain ⟨er, her⟩ : ∃ z, errF num 1 = z := ⟨_, rfl⟩
  rw [htx, her] at TC OKR UN
  clear htx her
  have HB : Hid (Below w2.heap.size w2 (w2.alloc (.cells #[.int .i64 num, .int .i64 1] 83))) := Lib.hid (Bal (Below.refl _ _) _)
  have A := Lib.hid (blk_new w2 (.cells #[.int .i64 num, .int .i64 1] 83))
  replace NN := Lib.hid (Bgo NN.out HB.out)
  replace K := Lib.hid (blk_next HB.out K.out)
  replace G := Lib.hid (G.out.next HB.out)
  clear HB
  go_wp2_with fail
  generalize w2.alloc (.cells #[.int .i64 num, .int .i64 1] 83) = W4 at *
  generalize w2.heap.size = ga at *
  refine (TC.out _ G.out).mono ?_
  rintro e w5 ⟨rfl, hb⟩
  replace A := Lib.hid (blk_next hb A.out)
  replace NN := Lib.hid (Bgo NN.out hb)
  replace K := Lib.hid (blk_next hb K.out)
  replace G := Lib.hid (G.out.next hb)
  clear hb
  clear TC
  have z0 := blk_cell K.out 0 _ rfl
  have z1 := blk_cell K.out 1 _ rfl
  have f0 := blk_frozen K.out 0
  have f1 := blk_frozen K.out 1
  have zl := blk_lt K.out
  have a0 := blk_cell A.out 0 _ rfl
  have a1 := blk_cell A.out 1 _ rfl
  have al := blk_lt A.out
  by_cases ez : er = 0
  rotate_left
  ·have ez' : (er != 0) = true := by rw [bne_iff_ne]; exact ez
   have NO := Lib.hid (PR.none (l := s.data.toList) (fun n d v h => ez (UN.out n d v h).1))
   clear UN OKR ez
   go_wp2_with fail
   have e1 := blk_cell (blk_set (blk_set K.out 0 (.int .i64 0)) 1 (.int .i64 0)) 0 _ rfl
   have e2 := blk_cell (blk_set (blk_set K.out 0 (.int .i64 0)) 1 (.int .i64 0)) 1 _ rfl
   refine bodyPost_ret (v := Rv (0, 0, 12)) (by simp [results, Tryz.results64, go_sem, e1, e2]) rfl ⟨_, rfl, NO.out, Bset1 (Bset1 NN.out (Nat.le_refl _) _ _) (Nat.le_refl _) _ _⟩
  subst ez
  by_cases et : tx = s.data.toList
  rotate_left
  ·have et' : (tx == s.toList) = false := by rw [ByteArray.toList_eq, beq_eq_false_iff_ne]; exact et
   have NO := Lib.hid (PR.none (l := s.data.toList) (fun n d v h => et (UN.out n d v h).2))
   clear UN OKR et
   go_wp2_with fail
   have e1 := blk_cell (blk_set (blk_set K.out 0 (.int .i64 0)) 1 (.int .i64 0)) 0 _ rfl
   have e2 := blk_cell (blk_set (blk_set K.out 0 (.int .i64 0)) 1 (.int .i64 0)) 1 _ rfl
   refine bodyPost_ret (v := Rv (0, 0, 12)) (by simp [results, Tryz.results64, go_sem, e1, e2]) rfl ⟨_, rfl, NO.out, Bset1 (Bset1 NN.out (Nat.le_refl _) _ _) (Nat.le_refl _) _ _⟩
  have R := Lib.hid (OKR.out rfl et)
  have et' : (tx == s.toList) = true := by rw [ByteArray.toList_eq, et]; exact beq_self_eq_true _
  clear UN OKR et
  go_wp2_with fail
  have e1 := blk_cell (blk_set (blk_set K.out 0 (.int .i64 num)) 1 (.int .i64 1)) 0 _ rfl
  have e2 := blk_cell (blk_set (blk_set K.out 0 (.int .i64 num)) 1 (.int .i64 1)) 1 _ rfl
  refine bodyPost_ret (v := Rv (num, 1, 0)) (by simp [results, Tryz.results64, go_sem, e1, e2]) rfl ⟨_, rfl, R.out, Bset1 (Bset1 NN.out (Nat.le_refl _) _ _) (Nat.le_refl _) _ _⟩
end Go.Proofs.YtbbnkclajpaghaaGreatDoor
namespace Go.Proofs.YtbbnkclajpaghaaGreatDoor
set_option linter.unusedVariables false
set_option linter.unusedSimpArgs false
theorem okF_VF {n d : Int} (h : okF n d = true) : VF n d := errF_ok (by unfold errF; rw [h]; rfl)
theorem VF_okF {n d : Int} (h : VF n d) : okF n d = true := by
 unfold okF
 rw [h.g, decide_eq_true ⟨h.d1, h.d2, h.n1, h.n2⟩]; rfl
def prC (l : List UInt8) : Int × Int × Int := match Lib.cut l [47] with
 | (a, b, f) => match Lib.parseIntB 64 a with
  | .ok n => if f then (match Lib.parseIntB 64 b with
    | .ok d => if okF n d && (textL n d == l) then (n, d, 0) else (0, 0, 12)
    | _ => (0, 0, 12))
   else if okF n 1 && (textL n 1 == l) then (n, 1, 0) else (0, 0, 12)
  | _ => (0, 0, 12)
theorem prC_text {n d : Int} (v : VF n d) : prC (textL n d) = (n, d, 0) := by
 unfold prC
 rw [cut_text]
 simp only [v.itoaN]
 by_cases h : d = 1
 ·subst h
  simp [VF_okF v]
 ·simp only [h, decide_false, Bool.not_false, if_true, if_false]
  simp only [v.itoaD, VF_okF v, beq_self_eq_true, Bool.and_self, if_true]
theorem prC_form (l : List UInt8) : (∃ n d, VF n d ∧ textL n d = l ∧ prC l = (n, d, 0)) ∨ prC l = (0, 0, 12) := by
 have K : ∀ n d, (okF n d && (textL n d == l)) = true → VF n d ∧ textL n d = l := fun n d h => by
  rw [Bool.and_eq_true, beq_iff_eq] at h
  exact ⟨okF_VF h.1, h.2⟩
 unfold prC
 split
 split
 ·rename_i n hn
  split
  ·split
   ·rename_i d hd
    split
    ·rename_i h; exact .inl ⟨n, d, (K n d h).1, (K n d h).2, rfl⟩
    ·exact .inr rfl
   ·exact .inr rfl
  ·split
   ·rename_i h; exact .inl ⟨n, 1, (K n 1 h).1, (K n 1 h).2, rfl⟩
   ·exact .inr rfl
 ·exact .inr rfl
theorem prC_PR (l : List UInt8) : PR l (prC l) := by
 rcases prC_form l with ⟨n, d, v, h, e⟩ | e
 ·rw [e]; exact .inl ⟨rfl, v, h⟩
 ·rw [e]
  refine .inr ⟨rfl, fun n d v h => ?_⟩
  subst h
  rw [prC_text v] at e
  cases e
theorem PR.eq {l : List UInt8} {r : Int × Int × Int} (h : PR l r) : r = prC l := h.unique (prC_PR l)
theorem textL_byte {n d : Int} : ∀ c ∈ textL n d, c = 45 ∨ (47 ≤ c.toNat ∧ c.toNat ≤ 57) := by
 have I : ∀ n : Int, ∀ c ∈ Lib.itoa n, c = 45 ∨ (48 ≤ c.toNat ∧ c.toNat ≤ 57) := fun n c hc => by
  unfold Lib.itoa at hc
  split at hc
  ·rcases List.mem_cons.1 hc with h | h
   ·exact .inl h
   ·exact .inr (dec_digit (n.natAbs + 1) n.natAbs (by omega) _ h)
  ·exact .inr (dec_digit (n.toNat + 1) n.toNat (by omega) _ hc)
 intro c hc
 unfold textL at hc
 split at hc
 ·rcases I n c hc with h | h
  ·exact .inl h
  ·exact .inr ⟨by omega, h.2⟩
 ·rcases List.mem_append.1 hc with h | h
  ·rcases I n c h with h | h
   ·exact .inl h
   ·exact .inr ⟨by omega, h.2⟩
  ·rcases List.mem_cons.1 h with h | h
   ·subst h; exact .inr ⟨by decide, by decide⟩
   ·rcases I d c h with h | h
    ·exact .inl h
    ·exact .inr ⟨by omega, h.2⟩
theorem textL_no {n d : Int} (b : UInt8) (hb : b.toNat = 32 ∨ b.toNat = 10) : ∀ c ∈ textL n d, c ≠ b := fun c hc e => by
 subst e
 rcases textL_byte c hc with h | h
 ·rw [h] at hb; revert hb; decide
 ·omega
theorem cut1_at {l r : List UInt8} {c : UInt8} (h : ∀ x ∈ l, x ≠ c) : Lib.cut (l ++ c :: r) [c] = (l, r, true) := by
 unfold Lib.cut
 rw [Lib.index_one, byte_at l c r h, if_pos (by omega)]
 simp [List.drop_append]
end Go.Proofs.YtbbnkclajpaghaaGreatDoor
namespace Go.Proofs.YtbbnkclajpaghaaGreatDoor
open Go.ChangeShapes Go.WideShapes Go.ChangeAt Go.RowKit
set_option linter.unusedVariables false
set_option maxRecDepth 100000
attribute [local go_sem ↓] Go.wp_at_zero Go.wp_at_succ
structure P2 (w W : World) (an ad bn bd : Int) : Prop where
 a : W.heap[w.heap.size]? = some (.cells #[.int .i64 an, .int .i64 ad] 83)
 b : W.heap[w.heap.size + 1]? = some (.cells #[.int .i64 bn, .int .i64 bd] 83)
 n : Below w.heap.size w W
theorem P2.next {w W W' : World} {an ad bn bd : Int} (h : P2 w W an ad bn bd) (hb : Below W.heap.size W W') : P2 w W' an ad bn bd := ⟨blk_next hb h.a, blk_next hb h.b, Bgo h.n hb⟩
theorem P2.init (w : World) (an ad bn bd : Int) : P2 w ((w.alloc (.cells #[.int .i64 an, .int .i64 ad] 83)).alloc (.cells #[.int .i64 bn, .int .i64 bd] 83)) an ad bn bd := ⟨blk1 w _ _, blk2 w _ _, Bal (Bal (Below.refl _ _) _) _⟩
end Go.Proofs.YtbbnkclajpaghaaGreatDoor
namespace Go.Proofs.YtbbnkclajpaghaaGreatDoor
open Go
set_option linter.unusedVariables false
set_option maxRecDepth 100000
section
variable {P : Program} {ops : Array Oper} {Q : Exit → Act → World → Prop} {md : Region.Mode} {S : Nat → World → Prop}
def wpAnyI (P : Program) (md : Region.Mode) (ops : Array Oper) (Q : Exit → Act → World → Prop) (S : Nat → World → Prop) : Nat → Array Bool → Act → World → Prop
 | 0, done, a, w => Region.ready md ops done = [] ∧ Q .normal a w
 | f + 1, done, a, w => (Region.ready md ops done = [] → Q .normal a w) ∧
  ∀ i ∈ Region.ready md ops done, wpOp P ops Q i (fun a' w' => (∀ k, Region.waitsFor md ops i k = false → S k w → S k w') ∧ wpAnyI P md ops Q S f (done.setIfInBounds i true) a' w') a w
theorem wpAny_of_I : ∀ (f : Nat) (done : Array Bool) (a : Act) (w : World), wpAnyI P md ops Q S f done a w → wpAny P md ops Q f done a w
 | 0, _, _, _, h => h
 | f + 1, _, _, _, h => ⟨h.1, fun i hi => wpOp_mono (fun a' w' h' => wpAny_of_I f _ a' w' h'.2) (h.2 i hi)⟩
theorem not_waits {i j : Nat} {done : Array Bool} (hj : j ∈ Region.ready md ops done) (hi : i ∈ Region.ready md ops done) : Region.waitsFor md ops j i = false := by
 cases h : Region.waitsFor md ops j i with
 | false => rfl
 | true =>
  obtain ⟨oj, hoj, e, he, hb, hon⟩ := Region.waitsFor_spec h
  obtain ⟨_, o', ho', hall⟩ := mem_ready.1 hj
  have : o' = oj := Option.some.inj (ho'.symm.trans hoj)
  subst this
  have h1 := hall e he hb
  have h0 := getD_both (mem_ready.1 hi).1
  rw [hon, h0] at h1
  cases h1
theorem edge_ne {i j : Nat} {oj : Oper} {done : Array Bool} (hoj : ops[j]? = some oj) (hj : j ∈ Region.ready md ops done) (hi : i ∈ Region.ready md ops done) : ∀ e ∈ oj.after, Region.binds md e = true → e.on ≠ i := fun e he hb heq => by
 obtain ⟨_, o', ho', hall⟩ := mem_ready.1 hj
 have : o' = oj := Option.some.inj (ho'.symm.trans hoj)
 subst this
 have h1 := hall e he hb
 rw [heq, getD_both (mem_ready.1 hi).1] at h1
 cases h1
theorem wpAnyI_first {i : Nat} {oi : Oper} {v : Value} (hi : ops[i]? = some oi) (hsel : ∀ (j : Nat) (o : Oper) cs b, ops[j]? = some o → o.op ≠ .select cs b)
  (hQ : ∀ c a w, Q (.panic c) (a.put oi.dst v) w → Q (.panic c) a w) :
  ∀ (f : Nat) (done : Array Bool) (a : Act) (w : World),
   (∀ j oj, ops[j]? = some oj → j ≠ i → done.getD j true = false → (∀ e ∈ oj.after, Region.binds md e = true → e.on ≠ i) → oi.apart ops oj = true) →
   i ∈ Region.ready md ops done → YieldsIf P ops (S i) oi v a → S i w →
   wpAnyI P md ops Q S f (done.setIfInBounds i true) (a.put oi.dst v) w → wpAnyI P md ops Q S (f + 1) done a w := by
 intro f
 induction f with
 | zero =>
  intro done a w _ hr hy hS H
  refine ⟨fun h => (by rw [h] at hr; cases hr), fun j hj => ?_⟩
  by_cases e : j = i
  ·subst e; exact hy.wpOp hi hS ⟨fun _ _ h => h, H⟩
  ·have := ready_mono hj e
   rw [H.1] at this
   cases this
 | succ f ih =>
  intro done a w hfree hr hy hS H
  refine ⟨fun h => (by rw [h] at hr; cases hr), fun j hj => ?_⟩
  by_cases e : j = i
  ·subst e; exact hy.wpOp hi hS ⟨fun _ _ h => h, H⟩
  ·have h1 := H.2 j (ready_mono hj e)
   obtain ⟨hjun, oj, hoj, _⟩ := mem_ready.1 hj
   have nw := not_waits hj hr
   have h2 := wpOp_putIf hoj (hfree j oj hoj e hjun (edge_ne hoj hj hr)) (fun cs b => hsel i oi cs b hi) (fun cs b => hsel j oj cs b hoj) hQ hy h1
   have hfree' : ∀ k ok, ops[k]? = some ok → k ≠ i → (done.setIfInBounds j true).getD k true = false → (∀ e ∈ ok.after, Region.binds md e = true → e.on ≠ i) → oi.apart ops ok = true := fun k ok hk hki hun hno => by
    refine hfree k ok hk hki ?_ hno
    by_cases hjk : j = k
    ·subst hjk; exact hjun
    ·rw [getD_set_ne true hjk] at hun; exact hun
   refine wpOp_mono (fun a' w' h3 => ⟨h3.2.1, ?_⟩) h2
   have r2 := ready_mono hr (Ne.symm e)
   refine ih (done.setIfInBounds j true) a' w' hfree' r2 h3.1 (h3.2.1 i nw hS) ?_
   rw [Array.setIfInBounds_comm _ _ e]
   exact h3.2.2
theorem take_I {oi : Oper} {f : Nat} {done : Array Bool} {a : Act} {w : World} (i : Nat) (v : Value) (d : Option Nat) (hi : ops[i]? = some oi) (hs : Region.noSelect ops = true) (hf : Region.free md ops done i = true)
  (hr : (Region.ready md ops done).contains i = true) (hd : oi.dst = d) (hQ : ∀ c a w, Q (.panic c) (a.put oi.dst v) w → Q (.panic c) a w) (hy : YieldsIf P ops (S i) oi v a) (hS : S i w)
  (h : wpAnyI P md ops Q S f (done.setIfInBounds i true) (a.put d v) w) : wpAnyI P md ops Q S (f + 1) done a w :=
 wpAnyI_first hi (Region.noSelect_spec hs) hQ f done a w (Region.free_spec hi hf) (by simpa using hr) hy hS (by rw [hd]; exact h)
theorem only_I {o : Oper} {f : Nat} {done : Array Bool} {a : Act} {w : World} (i : Nat) (hr : Region.ready md ops done = [i]) (ho : ops[i]? = some o)
  (h : ∀ K' : Act → World → Prop, Shut (∀ a' w', (∀ k, Region.waitsFor md ops i k = false → S k w → S k w') → wpAnyI P md ops Q S f (done.setIfInBounds i true) a' w' → K' a' w') → if Region.wanted o (yielded ops a.tmps) = true then Oper.wp P o a w K' Q else K' (a.put o.dst undef) w) :
  wpAnyI P md ops Q S (f + 1) done a w :=
 ⟨fun h0 => (by rw [hr] at h0; cases h0), fun j hj => by
  rw [hr] at hj
  have e : j = i := by simpa using hj
  subst e
  exact wpOp_step ho (fun K' hK => h K' (fun a' w' h1 h2 => hK a' w' ⟨h1, h2⟩))⟩
theorem done_I {done : Array Bool} {a : Act} {w : World} (hr : Region.ready md ops done = []) (h : Q .normal a w) : ∀ f, wpAnyI P md ops Q S f done a w
 | 0 => ⟨hr, h⟩
 | _ + 1 => ⟨fun _ => h, by rw [hr]; simp⟩
theorem region_I {id : Nat} {a : Act} {w : World} (hm : P.follows .mixedOrders = true) (h : wpAnyI P .any ops Q S ops.size (Array.replicate ops.size false) a w.drew) : (Code.region id ops true).wp P Q a w :=
 wp_region_any hm (wpAny_of_I _ _ _ _ h)
end
theorem zA {α : Type} (l : List α) (i : Nat) (a : α) : l.toArray.setIfInBounds i a = (l.set i a).toArray := List.setIfInBounds_toArray ..
theorem zB {α : Type} {a b : α} {l : List α} : (a :: l).set 0 b = b :: l := rfl
theorem zC {α : Type} {a b : α} {l : List α} {n : Nat} : (a :: l).set (n + 1) b = a :: l.set n b := rfl
end Go.Proofs.YtbbnkclajpaghaaGreatDoor
namespace Go.Proofs.YtbbnkclajpaghaaGreatDoor
open Go.ChangeShapes Go.WideShapes Go.ChangeAt Go.RowKit
set_option linter.unusedVariables false
set_option maxRecDepth 100000
attribute [local go_sem ↓] Go.wp_at_zero Go.wp_at_succ
theorem eqArr4 (a b c d : Int) (w : World) : (Op.equalIn 9999 152 (.agg #[.int .u64 a, .int .u64 b, .int .u64 c, .int .u64 d]) (.agg #[.int .u64 0, .int .u64 0, .int .u64 0, .int .u64 0])).run Tryz.prog w = .ok (a == 0 && (b == 0 && (c == 0 && d == 0))) w := by
 have u3 := Tryz.underlying147
 have a3 := Tryz.isAgg147
 have z3 := Tryz.sizeOf147
 rw [show (9999 : Nat) = 9998 + 1 from rfl, Op.equalIn]
 simp only [Sem.run_bind, run_underlying Tryz.underlying152, Result.andThen_ok]
 simp only [Std.Legacy.Range.forIn_eq_forIn_range', Std.Legacy.Range.size, Nat.sub_zero, Nat.add_sub_cancel, Nat.div_one, List.range'_succ, List.range'_zero, List.forIn_cons, List.forIn_nil]
 go_simp
 by_cases h1 : a = 0 <;> by_cases h2 : b = 0 <;> by_cases h3 : c = 0 <;> by_cases h4 : d = 0 <;> simp [h1, h2, h3, h4]
attribute [local go_sem] eqArr4
theorem bfl {p : Prop} {b : Bool} (h1 : b = true) (h2 : b = false) : p := by rw [h1] at h2; cases h2
def SK (L : List (Nat × Nat × Obj)) (k : Nat) (X : World) : Prop := ∀ p ∈ L, p.1 = k → X.heap[p.2.1]? = some p.2.2
theorem SK.next {L : List (Nat × Nat × Obj)} {k : Nat} {X Y : World} (h : SK L k X) (hb : Below X.heap.size X Y) : SK L k Y := fun p hp e => blk_next hb (h p hp e)
theorem SK.drop {L : List (Nat × Nat × Obj)} {k : Nat} {Y : World} (h : ∀ p ∈ L, p.1 ≠ k) : SK L k Y := fun p hp e => absurd e (h p hp)
end Go.Proofs.YtbbnkclajpaghaaGreatDoor
namespace Go.Proofs.YtbbnkclajpaghaaGreatDoor
set_option linter.unusedVariables false
set_option maxRecDepth 100000
def redF (N : Int) (D : Nat) : Int × Int × Int := lowF (decide (N < 0)) (N.natAbs / Nat.gcd N.natAbs D) (D / Nat.gcd N.natAbs D)
theorem redF_cases (N : Int) (D : Nat) : redF N D = (0, 0, 16) ∨ ∃ n d, redF N D = (n, d, 0) := by
 unfold redF lowF
 split
 ·exact .inl rfl
 ·exact .inr ⟨_, _, rfl⟩
theorem redF_val {N n d e : Int} {D : Nat} (hD : 0 < D) (h : redF N D = (n, d, e)) (he : e = 0) : VF n d ∧ n * D = N * d := by
 unfold redF at h
 have hp : 0 < Nat.gcd N.natAbs D := Nat.gcd_pos_of_pos_right _ hD
 have e1 := Nat.mul_div_cancel' (Nat.gcd_dvd_left N.natAbs D)
 have e2 := Nat.mul_div_cancel' (Nat.gcd_dvd_right N.natAbs D)
 have co : Nat.gcd (N.natAbs / Nat.gcd N.natAbs D) (D / Nat.gcd N.natAbs D) = 1 := Nat.coprime_div_gcd_div_gcd hp
 generalize Nat.gcd N.natAbs D = g at *
 generalize N.natAbs / g = m at *
 generalize D / g = k at *
 have k0 : 0 < k := Nat.pos_of_ne_zero (fun z => by rw [z] at e2; omega)
 unfold lowF at h
 by_cases c : 1000000000000000000 < m ∨ 1000000000000000000 < k
 ·rw [if_pos c] at h
  cases h; cases he
 ·rw [if_neg c] at h
  simp only [Prod.mk.injEq] at h
  obtain ⟨h1, h2, _⟩ := h
  subst h1 h2
  have eN : (g : Int) * m = if N < 0 then -N else N := by
   have : ((g * m : Nat) : Int) = (N.natAbs : Int) := by rw [e1]
   push_cast at this
   split <;> omega
  have eD : (g : Int) * k = D := by exact_mod_cast e2
  by_cases cn : N < 0
  ·rw [if_pos cn] at eN
   simp only [cn, decide_true, if_true]
   refine ⟨⟨by omega, by omega, by omega, by omega, by simpa using co⟩, ?_⟩
   rw [← eD]; grind
  ·rw [if_neg cn] at eN
   simp only [cn, decide_false, Bool.false_eq_true, if_false]
   refine ⟨⟨by omega, by omega, by omega, by omega, by simpa using co⟩, ?_⟩
   rw [← eD]; grind
theorem VF.same {n d m k : Int} (h : VF n d) (h' : VF m k) (e : n * k = m * d) : n = m ∧ d = k := by
 have d1 := h.d1
 have k1 := h'.d1
 have en : n.natAbs * k.natAbs = m.natAbs * d.natAbs := by rw [← Int.natAbs_mul, ← Int.natAbs_mul, e]
 have a : d.natAbs ∣ k.natAbs := Nat.Coprime.dvd_of_dvd_mul_left (show Nat.Coprime d.natAbs n.natAbs from Nat.Coprime.symm h.g) (en ▸ Nat.dvd_mul_left _ _)
 have b : k.natAbs ∣ d.natAbs := Nat.Coprime.dvd_of_dvd_mul_left (show Nat.Coprime k.natAbs m.natAbs from Nat.Coprime.symm h'.g) (en ▸ Nat.dvd_mul_left _ _)
 have ed : d = k := by have := Nat.dvd_antisymm a b; omega
 subst ed
 refine ⟨?_, rfl⟩
 exact Int.eq_of_mul_eq_mul_right (by omega) e
end Go.Proofs.YtbbnkclajpaghaaGreatDoor
namespace Go.Proofs.YtbbnkclajpaghaaGreatDoor
set_option linter.unusedVariables false
set_option linter.unusedSimpArgs false
theorem makeF_red {a D : Int} (hD : 0 < D) : makeF a D = redF a D.natAbs := by
 unfold makeF redF
 rw [if_neg (by omega), show decide (D < 0) = false from decide_eq_false (by omega)]
 simp
theorem part_of {a D : Int} (hD : 1 ≤ D) (hD' : D ≤ 1000000000) (ha : -1000000000 ≤ a) (ha' : a ≤ 1000000000) : ∃ n d, makeF a D = (n, d, 0) ∧ VF n d ∧ n * D = a * d := by
 rw [makeF_red (by omega)]
 rcases redF_cases a D.natAbs with h | ⟨n, d, h⟩
 ·exfalso
  unfold redF lowF at h
  have h1 := Nat.div_le_self a.natAbs (Nat.gcd a.natAbs D.natAbs)
  have h2 := Nat.div_le_self D.natAbs (Nat.gcd a.natAbs D.natAbs)
  rw [if_neg (by omega)] at h
  injection h with _ h
  injection h with _ h
  cases h
 ·have := redF_val (by omega) h rfl
  refine ⟨n, d, h, this.1, ?_⟩
  have h2 := this.2
  rw [show ((D.natAbs : Nat) : Int) = D by omega] at h2
  exact h2
theorem itoa_text (n : Int) : Lib.itoa n = textL n 1 := by unfold textL; rw [if_pos rfl]
theorem itoa_no {n : Int} (b : UInt8) (hb : b.toNat = 32 ∨ b.toNat = 10) : ∀ c ∈ Lib.itoa n, c ≠ b := by rw [itoa_text]; exact textL_no b hb
theorem atoi_itoa {n : Int} (h1 : -9223372036854775808 ≤ n) (h2 : n ≤ 9223372036854775807) : Lib.atoiAll (Lib.itoa n) = .ok n := by rw [← Lib.parseIntB_64]; exact parseI_itoa h1 h2
theorem wordsL_of_join {c : UInt8} : ∀ {fs : List (List UInt8)}, fs ≠ [] → (∀ f ∈ fs, ∀ x ∈ f, x ≠ c) → wordsL c (Lib.join fs [c]) = fs
 | [], h, _ => absurd rfl h
 | [x], _, h => by rw [Lib.join_one]; exact wordsL_free (h x (List.mem_cons_self ..))
 | x :: y :: r, _, h => by
  rw [Lib.join_cons, show Lib.joinTail [c] (y :: r) = c :: Lib.join (y :: r) [c] by rw [Lib.join_cons]; rfl, wordsL_cut (h x (List.mem_cons_self ..)), wordsL_of_join (by simp) fun f hf => h f (List.mem_cons_of_mem _ hf)]
def lnF (r : Vr) : List (List UInt8) := [Lib.itoa r.t, Lib.itoa r.c, Lib.itoa r.i, Lib.itoa r.j, textL (makeF r.re r.dn).1 (makeF r.re r.dn).2.1, textL (makeF r.im r.dn).1 (makeF r.im r.dn).2.1, Lib.itoa r.n]
def lnL (r : Vr) : List UInt8 := Lib.join (lnF r) [32]
theorem lnF_free (r : Vr) (b : UInt8) (hb : b.toNat = 32 ∨ b.toNat = 10) : ∀ f ∈ lnF r, ∀ x ∈ f, x ≠ b := by
 intro f hf
 simp only [lnF, List.mem_cons, List.not_mem_nil, or_false] at hf
 rcases hf with rfl | rfl | rfl | rfl | rfl | rfl | rfl <;> first | exact itoa_no b hb | exact textL_no b hb
theorem words_lnL (r : Vr) : wordsL 32 (lnL r) = lnF r := wordsL_of_join (by simp [lnF]) (lnF_free r 32 (.inl rfl))
theorem join_mem {sep : List UInt8} : ∀ {fs : List (List UInt8)} {x : UInt8}, x ∈ Lib.join fs sep → x ∈ sep ∨ ∃ f ∈ fs, x ∈ f
 | [], x, h => by rw [Lib.join_nil] at h; cases h
 | [f], x, h => by rw [Lib.join_one] at h; exact .inr ⟨f, List.mem_cons_self .., h⟩
 | f :: y :: r, x, h => by
  rw [Lib.join_cons, show Lib.joinTail sep (y :: r) = sep ++ Lib.join (y :: r) sep by rw [Lib.join_cons, ← List.append_assoc]; rfl] at h
  rcases List.mem_append.1 h with h | h
  ·exact .inr ⟨f, List.mem_cons_self .., h⟩
  ·rcases List.mem_append.1 h with h | h
   ·exact .inl h
   ·rcases join_mem h with h | ⟨g, hg, hx⟩
    ·exact .inl h
    ·exact .inr ⟨g, List.mem_cons_of_mem _ hg, hx⟩
theorem lnL_free (r : Vr) : ∀ x ∈ lnL r, x ≠ 10 := by
 intro x hx
 rcases join_mem hx with h | ⟨f, hf, h⟩
 ·simp only [List.mem_singleton] at h; subst h; decide
 ·exact lnF_free r 10 (.inr rfl) f hf x h
theorem rowB_val {r : Vr} (h : rowB r = true) : 0 ≤ r.n ∧ r.n ≤ 1000000 ∧ Cxm.chkB r.re r.im r.dn = true ∧ (∃ n d, makeF r.re r.dn = (n, d, 0) ∧ VF n d ∧ n * r.dn = r.re * d) ∧ (∃ n d, makeF r.im r.dn = (n, d, 0) ∧ VF n d ∧ n * r.dn = r.im * d) ∧ Nat.gcd (Nat.gcd r.re.natAbs r.im.natAbs) r.dn.natAbs = 1 := by
 simp only [rowB, visB, Bool.and_eq_true, decide_eq_true_eq] at h
 obtain ⟨-, -, -, -, -, -, -, hv, h0, h1⟩ := h
 have hv' := hv
 simp only [valB, Cxm.chkB, Cxm.fitsB, Bool.and_eq_true, decide_eq_true_eq] at hv'
 obtain ⟨hd, hr, hi, hg⟩ := hv'
 refine ⟨h0, h1, hv, part_of hd.1 hd.2 hr.1 hr.2, part_of hd.1 hd.2 hi.1 hi.2, ?_⟩
 simp only [Cxm.g3, Cxm.g2, Int.gcd] at hg
 simp only [Int.natAbs_natCast] at hg
 omega
theorem valO_row {r : Vr} (h : rowB r = true) : valO (makeF r.re r.dn).1 (makeF r.re r.dn).2.1 (makeF r.im r.dn).1 (makeF r.im r.dn).2.1 = some (r.re, r.im, r.dn) := by
 obtain ⟨-, -, hc, ⟨n1, d1, e1, v1, m1⟩, ⟨n2, d2, e2, v2, m2⟩, hg⟩ := rowB_val h
 rw [e1, e2]
 have := v1.d1
 have := v2.d1
 show valO n1 d1 n2 d2 = _
 exact valO_back (by omega) (by omega) m1 m2 v1.g v2.g hg hc
def mkO (t c i j n1 d1 n2 d2 n : Int) : Option Vr :=
 if i < 0 ∨ 8 ≤ i ∨ j < 0 ∨ 8 ≤ j ∨ i = j ∨ n < 0 ∨ 1000000 < n then none
 else match valO n1 d1 n2 d2 with
  | none => none
  | some (a, b, D) => if j < i then some ⟨t, c, j, i, a, -b, D, n⟩ else some ⟨t, c, i, j, a, b, D, n⟩
def prP (l : List UInt8) : Option Vr := match wordsL 32 l with
 | [a, b, c, d, e, f, g] => match Lib.atoiAll a, Lib.atoiAll b, Lib.atoiAll c, Lib.atoiAll d, Lib.atoiAll g with
  | .ok t, .ok ch, .ok i, .ok j, .ok n => if (prC e).2.2 = 0 ∧ (prC f).2.2 = 0 then mkO t ch i j (prC e).1 (prC e).2.1 (prC f).1 (prC f).2.1 n else none
  | _, _, _, _, _ => none
 | _ => none
theorem prP_lnL {r : Vr} (h : rowB r = true) : prP (lnL r) = some r := by
 have hf := rowB_facts h
 have hv := valO_row h
 obtain ⟨h0, h1, -, ⟨n1, d1, e1, v1, -⟩, ⟨n2, d2, e2, v2, -⟩, -⟩ := rowB_val h
 unfold prP
 rw [words_lnL]
 unfold lnF
 rw [e1, e2] at hv ⊢
 simp only
 rw [atoi_itoa (by omega) (by omega), atoi_itoa (by omega) (by omega), atoi_itoa (by omega) (by omega), atoi_itoa (by omega) (by omega), atoi_itoa (by omega) (by omega), prC_text v1, prC_text v2]
 simp only [and_self, if_true]
 unfold mkO
 rw [if_neg (by omega)]
 simp only at hv
 rw [hv]
 simp only
 rw [if_neg (by omega)]
def numbG : Nat → Nat → List UInt8 → Int
 | 0, acc, _ => acc
 | _ + 1, acc, [] => acc
 | f + 1, acc, c :: r => if c.toNat < 48 ∨ 57 < c.toNat then 0 else numbG f (10 * acc + (c.toNat - 48)) r
def numbL (l : List UInt8) : Int := numbG 8 0 l
theorem numbG_spell : ∀ (f acc : Nat) (l : List UInt8), l.length ≤ f → (∀ c ∈ l, 48 ≤ c.toNat ∧ c.toNat ≤ 57) → numbG f acc l = (spell acc l : Nat)
 | 0, acc, [], _, _ => rfl
 | 0, acc, c :: l, h, _ => by simp at h
 | f + 1, acc, [], _, _ => rfl
 | f + 1, acc, c :: l, h, hd => by
  have := hd c (List.mem_cons_self ..)
  unfold numbG
  rw [if_neg (by omega), numbG_spell f _ l (by simpa using h) fun x hx => hd x (List.mem_cons_of_mem _ hx), spell_cons, Nat.mul_comm]
theorem decl_len : ∀ (k u : Nat), u < 10 ^ (k + 1) → (Lib.decDigits u).length ≤ k + 1
 | 0, u, h => by rw [Lib.decDigits_one (by simpa using h)]; simp
 | k + 1, u, h => by
  rw [Lib.decDigits]
  split
  ·simp
  ·rw [List.length_append]
   have := decl_len k (u / 10) (by rw [Nat.pow_succ] at h; omega)
   simp; omega
theorem numbL_itoa {n : Int} (h0 : 0 ≤ n) (h1 : n ≤ 1000000) : numbL (Lib.itoa n) = n := by
 obtain ⟨u, rfl⟩ := Int.eq_ofNat_of_zero_le h0
 rw [Lib.itoa_nonneg]
 unfold numbL
 rw [numbG_spell 8 0 _ (by have := decl_len 6 u (by omega); omega) (dec_digit (u + 1) u (by omega)), spell_dec (u + 1) u (by omega)]
def prR (l : List UInt8) : Option Vr := match wordsL 32 l with
 | [a, b, c, d, e, f, g] => if (prC e).2.2 = 0 ∧ (prC f).2.2 = 0 then (match valO (prC e).1 (prC e).2.1 (prC f).1 (prC f).2.1 with
  | none => none
  | some (x, y, D) => if rowB ⟨numbL a, numbL b, numbL c, numbL d, x, y, D, numbL g⟩ = true ∧ lnL ⟨numbL a, numbL b, numbL c, numbL d, x, y, D, numbL g⟩ = l then some ⟨numbL a, numbL b, numbL c, numbL d, x, y, D, numbL g⟩ else none) else none
 | _ => none
theorem prR_lnL {r : Vr} (h : rowB r = true) : prR (lnL r) = some r := by
 have hf := rowB_facts h
 have hv := valO_row h
 obtain ⟨h0, h1, -, ⟨n1, d1, e1, v1, -⟩, ⟨n2, d2, e2, v2, -⟩, -⟩ := rowB_val h
 unfold prR
 rw [words_lnL]
 unfold lnF
 rw [e1, e2] at hv ⊢
 simp only
 rw [numbL_itoa (by omega) (by omega), numbL_itoa (by omega) (by omega), numbL_itoa (by omega) (by omega), numbL_itoa (by omega) (by omega), numbL_itoa (by omega) (by omega), prC_text v1, prC_text v2]
 simp only at hv
 simp only [and_self, if_true]
 rw [hv]
 simp only
 rw [if_pos ⟨h, trivial⟩]
theorem prR_some {l : List UInt8} {r : Vr} (h : prR l = some r) : rowB r = true ∧ lnL r = l := by
 unfold prR at h
 split at h
 ·split at h
  ·split at h
   ·cases h
   ·split at h
    ·rename_i hh
     injection h with h
     subst h
     exact hh
    ·cases h
  ·cases h
 ·cases h
def txT (t : List Vr) : List UInt8 := (t.map fun r => lnL r ++ [10]).flatten
theorem txT_nil : txT [] = [] := rfl
theorem txT_cons (r : Vr) (t : List Vr) : txT (r :: t) = lnL r ++ 10 :: txT t := by simp [txT]
theorem goodF_rows : ∀ {q : Option Vr} {l : List Vr}, goodF q l = true → ∀ r ∈ l, rowB r = true
 | _, [], _, r, hr => by cases hr
 | none, x :: l, h, r, hr => by
  simp only [goodF, Bool.and_eq_true] at h
  rcases List.mem_cons.1 hr with rfl | hr
  ·exact h.1
  ·exact goodF_rows h.2 r hr
 | some q, x :: l, h, r, hr => by
  simp only [goodF, Bool.and_eq_true] at h
  rcases List.mem_cons.1 hr with rfl | hr
  ·exact h.1
  ·exact goodF_rows h.2.2 r hr
theorem chk_rows {t : List Vr} (h : chkE t = 0) : t.length ≤ 200 ∧ ∀ r ∈ t, rowB r = true := by
 unfold chkE at h
 split at h
 ·cases h
 ·split at h
  ·rename_i hg
   exact ⟨by omega, goodF_rows hg⟩
  ·cases h
theorem lines_txT : ∀ (t : List Vr) (f : Nat), t.length ≤ f → linesL f (txT t) = t.map lnL
 | [], 0, _ => rfl
 | [], f + 1, _ => by unfold linesL; rw [txT_nil, if_pos rfl]; rfl
 | r :: t, 0, h => by simp at h
 | r :: t, f + 1, h => by
  unfold linesL
  rw [txT_cons, if_neg (by simp), cut1_at (lnL_free r), List.map_cons, lines_txT t f (by simpa using h)]
theorem words_txT : ∀ (t : List Vr), wordsL 10 (txT t) = t.map lnL ++ [[]]
 | [] => rfl
 | r :: t => by rw [txT_cons, wordsL_cut (lnL_free r), words_txT t]; rfl
theorem txT_len (t : List Vr) : t.length ≤ (txT t).length := by
 induction t with
 | nil => exact Nat.zero_le _
 | cons r t ih => rw [txT_cons, List.length_append, List.length_cons, List.length_cons]; omega
def allO (f : List UInt8 → Option Vr) : List (List UInt8) → Option (List Vr)
 | [] => some []
 | l :: ls => match f l, allO f ls with
  | some r, some t => some (r :: t)
  | _, _ => none
theorem allO_of {f : List UInt8 → Option Vr} (hf : ∀ r, rowB r = true → f (lnL r) = some r) : ∀ {t : List Vr}, (∀ r ∈ t, rowB r = true) → allO f (t.map lnL) = some t
 | [], _ => rfl
 | r :: t, h => by
  rw [List.map_cons]
  unfold allO
  rw [hf r (h r (List.mem_cons_self ..)), allO_of hf fun x hx => h x (List.mem_cons_of_mem _ hx)]
theorem allO_back {f : List UInt8 → Option Vr} (hf : ∀ l r, f l = some r → lnL r = l) : ∀ {ls : List (List UInt8)} {t : List Vr}, allO f ls = some t → t.map lnL = ls
 | [], t, h => by
  unfold allO at h
  injection h with h
  subst h; rfl
 | l :: ls, t, h => by
  unfold allO at h
  split at h
  ·rename_i r t' h1 h2
   injection h with h
   subst h
   rw [List.map_cons, hf l r h1, allO_back hf h2]
  ·cases h
def parP (s : List UInt8) : Option (List Vr) := match allO prP (linesL (s.length + 1) s) with
 | some t => if chkE t = 0 ∧ txT t = s then some t else none
 | none => none
def parR (s : List UInt8) : Option (List Vr) := match allO prR (wordsL 10 s).dropLast with
 | some t => if (wordsL 10 s).getLast? = some [] ∧ chkE t = 0 then some t else none
 | none => none
theorem parP_some {s : List UInt8} {t : List Vr} (h : parP s = some t) : chkE t = 0 ∧ txT t = s := by
 unfold parP at h
 split at h
 ·split at h
  ·rename_i hh
   injection h with h
   subst h
   exact hh
  ·cases h
 ·cases h
theorem parP_text {t : List Vr} (h : chkE t = 0) : parP (txT t) = some t := by
 unfold parP
 rw [lines_txT t _ (by have := txT_len t; omega), allO_of (fun r hr => prP_lnL hr) (chk_rows h).2]
 simp only
 rw [if_pos ⟨h, trivial⟩]
theorem parR_text {t : List Vr} (h : chkE t = 0) : parR (txT t) = some t := by
 unfold parR
 rw [words_txT, List.dropLast_concat, allO_of (fun r hr => prR_lnL hr) (chk_rows h).2]
 simp only
 rw [if_pos ⟨by simp, h⟩]
theorem txT_words {t : List Vr} : ∀ {s : List UInt8}, wordsL 10 s = t.map lnL ++ [[]] → txT t = s := by
 intro s h
 rw [← words_txT] at h
 rw [← wordsL_join 10 (txT t), ← h, wordsL_join]
theorem parR_some {s : List UInt8} {t : List Vr} (h : parR s = some t) : chkE t = 0 ∧ txT t = s := by
 unfold parR at h
 split at h
 ·rename_i t' ht
  split at h
  ·rename_i hh
   injection h with h
   subst h
   refine ⟨hh.2, txT_words ?_⟩
   rw [allO_back (fun l r hl => (prR_some hl).2) ht]
   obtain ⟨ys, e⟩ := List.getLast?_eq_some_iff.1 hh.1
   rw [e, List.dropLast_concat]
  ·cases h
 ·cases h
theorem parR_eq (s : List UInt8) : parR s = parP s := by
 cases h : parP s with
 | some t =>
  obtain ⟨h1, h2⟩ := parP_some h
  rw [← h2]
  exact parR_text h1
 | none =>
  cases h' : parR s with
  | none => rfl
  | some t =>
   obtain ⟨h1, h2⟩ := parR_some h'
   rw [← h2, parP_text h1] at h
   cases h
end Go.Proofs.YtbbnkclajpaghaaGreatDoor
namespace Go.Proofs.YtbbnkclajpaghaaGreatDoor
open Go Go.RowKit
set_option linter.unusedVariables false
section
variable {P : Program} {ops : Array Oper} {Q : Exit → Act → World → Prop} {md : Region.Mode} {S : Nat → World → Prop}
theorem below_go {w X Y : World} (h : Below w.heap.size w X) (h' : Below X.heap.size X Y) : Below w.heap.size w Y := h.trans (h'.mono h.size)
def Shutd (md : Region.Mode) (ops : Array Oper) (done : Array Bool) : Prop := ∀ (m : Nat) (om : Oper), ops[m]? = some om → done.getD m false = true → ∀ e ∈ om.after, Region.binds md e = true → done.getD e.on false = true
def waitsT (md : Region.Mode) (ops : Array Oper) : Nat → Nat → Nat → Bool
 | 0, _, _ => false
 | f + 1, j, k => Region.waitsFor md ops j k || (List.range ops.size).any fun m => Region.waitsFor md ops j m && waitsT md ops f m k
theorem shut_T {done : Array Bool} (hc : Shutd md ops done) : ∀ (f j k : Nat), waitsT md ops f j k = true → done.getD j false = true → done.getD k false = true
 | 0, _, _, h, _ => by cases h
 | f + 1, j, k, h, hj => by
  unfold waitsT at h
  rw [Bool.or_eq_true, List.any_eq_true] at h
  rcases h with h | ⟨m, _, h⟩
  ·obtain ⟨oj, hoj, e, he, hb, hon⟩ := Region.waitsFor_spec h
   rw [← hon]; exact hc j oj hoj hj e he hb
  ·rw [Bool.and_eq_true] at h
   obtain ⟨oj, hoj, e, he, hb, hon⟩ := Region.waitsFor_spec h.1
   exact shut_T hc f m k h.2 (by rw [← hon]; exact hc j oj hoj hj e he hb)
theorem ready_T {done : Array Bool} (hc : Shutd md ops done) {f j k : Nat} (hj : j ∈ Region.ready md ops done) (h : waitsT md ops f j k = true) : done.getD k false = true := by
 obtain ⟨_, o', ho', hall⟩ := mem_ready.1 hj
 cases f with
 | zero => cases h
 | succ f =>
  unfold waitsT at h
  rw [Bool.or_eq_true, List.any_eq_true] at h
  rcases h with h | ⟨m, _, h⟩
  ·obtain ⟨oj, hoj, e, he, hb, hon⟩ := Region.waitsFor_spec h
   have : o' = oj := Option.some.inj (ho'.symm.trans hoj)
   subst this
   rw [← hon]; exact hall e he hb
  ·rw [Bool.and_eq_true] at h
   obtain ⟨oj, hoj, e, he, hb, hon⟩ := Region.waitsFor_spec h.1
   have : o' = oj := Option.some.inj (ho'.symm.trans hoj)
   subst this
   exact shut_T hc f m k h.2 (by rw [← hon]; exact hall e he hb)
theorem shut_set {done : Array Bool} (hc : Shutd md ops done) {i : Nat} (hi : i ∈ Region.ready md ops done) : Shutd md ops (done.setIfInBounds i true) := by
 intro m om ho hm e he hb
 refine getD_set_true ?_
 by_cases h : i = m
 ·subst h
  obtain ⟨_, o', ho', hall⟩ := mem_ready.1 hi
  have : o' = om := Option.some.inj (ho'.symm.trans ho)
  subst this
  exact hall e he hb
 ·rw [getD_set_ne false h] at hm
  exact hc m om ho hm e he hb
abbrev Keeps (md : Region.Mode) (ops : Array Oper) (S : Nat → World → Prop) (i : Nat) (X W : World) : Prop := ∀ k, waitsT md ops ops.size i k = false → S k X → S k W
def wpAnyG (P : Program) (md : Region.Mode) (ops : Array Oper) (Q : Exit → Act → World → Prop) (S : Nat → World → Prop) : Nat → Array Bool → Act → World → Prop
 | 0, done, a, w => ∀ X : World, Below w.heap.size w X → Region.ready md ops done = [] ∧ Q .normal a X
 | f + 1, done, a, w => ∀ X : World, Below w.heap.size w X → (Region.ready md ops done = [] → Q .normal a X) ∧
  ∀ i ∈ Region.ready md ops done, wpOp P ops Q i (fun a' w' => Keeps md ops S i X w' ∧ wpAnyG P md ops Q S f (done.setIfInBounds i true) a' w') a X
theorem wpAny_of_G : ∀ (f : Nat) (done : Array Bool) (a : Act) (w : World), wpAnyG P md ops Q S f done a w → wpAny P md ops Q f done a w
 | 0, _, _, w, h => h w (Below.refl _ _)
 | f + 1, _, _, w, h => ⟨(h w (Below.refl _ _)).1, fun i hi => wpOp_mono (fun a' w' h' => wpAny_of_G f _ a' w' h'.2) ((h w (Below.refl _ _)).2 i hi)⟩
theorem wpAnyG_grow : ∀ (f : Nat) (done : Array Bool) (a : Act) (w X : World), Below w.heap.size w X → wpAnyG P md ops Q S f done a w → wpAnyG P md ops Q S f done a X
 | 0, _, _, _, _, hb, h => fun Y hY => h Y (below_go hb hY)
 | _ + 1, _, _, _, _, hb, h => fun Y hY => h Y (below_go hb hY)
def YieldsG (P : Program) (ops : Array Oper) (S : World → Prop) (o : Oper) (v : Value) (a : Act) : Prop :=
 (Region.wanted o (yielded ops a.tmps) = true ∧ ∀ w, S w → (execOp a.eval o).run P w = .ok (.value v) w ∨ ∃ f args, (execOp a.eval o).run P w = .ok (.enter f args) w ∧ Calls P f args w fun e w' => e = .returned v ∧ Below w.heap.size w w') ∨
 (Region.wanted o (yielded ops a.tmps) = false ∧ v = undef)
theorem YieldsIf.toG {S : World → Prop} {o : Oper} {v : Value} {a : Act} (h : YieldsIf P ops S o v a) : YieldsG P ops S o v a :=
 h.imp (fun ⟨hw, hv⟩ => ⟨hw, fun w hs => .inl (hv w hs)⟩) id
theorem yieldsG_call {S : World → Prop} {o : Oper} {v : Value} {a : Act} (f : Nat) (args : Array Value) (hw : Region.wanted o (yielded ops a.tmps) = true) (hr : ∀ w, S w → (execOp a.eval o).run P w = .ok (.enter f args) w)
  (hc : ∀ w, S w → Calls P f args w fun e w' => e = .returned v ∧ Below w.heap.size w w') : YieldsG P ops S o v a := .inl ⟨hw, fun w hs => .inr ⟨f, args, hr w hs, hc w hs⟩⟩
theorem YieldsG.wpOp {S : World → Prop} {i : Nat} {o : Oper} {v : Value} {a : Act} (hi : ops[i]? = some o) (hy : YieldsG P ops S o v a)
  {K : Act → World → Prop} {w : World} (hS : S w) (h : ∀ X, Below w.heap.size w X → K (a.put o.dst v) X) : wpOp P ops Q i K a w := by
 unfold Go.wpOp
 simp only [hi]
 rcases hy with ⟨hw, hv⟩ | ⟨hw, rfl⟩
 ·simp only [hw, if_true]
  rcases hv w hS with hv | ⟨f, args, hv, hc⟩
  ·simp only [Oper.wp, hv, Oper.upon]; exact .inl (h w (Below.refl _ _))
  ·simp only [Oper.wp, hv, Oper.upon]
   refine .inl (hc.mono ?_)
   rintro e w' ⟨rfl, hb⟩
   exact h w' hb
 ·simp only [hw, Bool.false_eq_true, if_false]; exact h w (Below.refl _ _)
theorem YieldsG.of_same {S : World → Prop} {o : Oper} {v : Value} {a a' : Act} (hy : YieldsG P ops S o v a) (he : execOp a'.eval o = execOp a.eval o)
  (hw : Region.wanted o (yielded ops a'.tmps) = Region.wanted o (yielded ops a.tmps)) : YieldsG P ops S o v a' := by
 unfold YieldsG at *
 rw [he, hw]
 exact hy
theorem wpOp_putG {S : World → Prop} {j : Nat} {oi oj : Oper} {v : Value} (hj : ops[j]? = some oj) (hap : oi.apart ops oj = true)
  (hsi : ∀ cs b, oi.op ≠ .select cs b) (hsj : ∀ cs b, oj.op ≠ .select cs b)
  (hQ : ∀ c a w, Q (.panic c) (a.put oi.dst v) w → Q (.panic c) a w) {K : Act → World → Prop} {a : Act} {w : World}
  (hy : YieldsG P ops S oi v a) (h : wpOp P ops Q j K (a.put oi.dst v) w) :
  wpOp P ops Q j (fun a' w' => YieldsG P ops S oi v a' ∧ K (a'.put oi.dst v) w') a w := by
 obtain ⟨h1, h2, h3⟩ := Oper.apart_spec hap
 have keep : ∀ (a : Act), YieldsG P ops S oi v a → ∀ u, YieldsG P ops S oi v (a.put oj.dst u) := fun a hy u =>
  hy.of_same (execOp_put oi hsi a oj.dst u h3) (wanted_put oi a oj.dst u h3)
 have keepD : ∀ d, YieldsG P ops S oi v { a with defers := d :: a.defers } := fun d => hy.of_same rfl rfl
 unfold wpOp at *
 simp only [hj] at *
 rw [wanted_put oj a oi.dst v h1] at h
 split
 ·rename_i hw
  simp only [hw, if_true] at h
  rcases h with h | ⟨hasks, hlets⟩
  case inr => exact .inr ⟨by unfold Oper.asks at *; rw [execOp_put oj hsj a oi.dst v h1] at hasks; exact hasks, hlets⟩
  refine .inl ?_
  unfold Oper.wp at *
  rw [execOp_put oj hsj a oi.dst v h1] at h
  generalize (execOp a.eval oj).run P w = r at *
  cases r with
  | ok n w' =>
   cases n <;> simp only [Oper.upon] at h ⊢
   case value u => exact ⟨keep a hy u, by rw [← Act.put_comm a v u h2]; exact h⟩
   case skip => exact ⟨keep a hy _, by rw [← Act.put_comm a v undef h2]; exact h⟩
   case defer d =>
    refine ⟨keep _ (keepD d) _, ?_⟩
    rw [← Act.put_comm _ v undef h2, ← Act.put_defers]
    exact h
   case enter f args =>
    refine Calls.mono h fun e w'' he => ?_
    cases e with
    | returned u => exact ⟨keep a hy u, by rw [← Act.put_comm a v u h2]; exact he⟩
    | panicked c => exact hQ _ _ _ he
    | outgrown => exact he
   case row row args => exact Rows.mono h fun u w'' he => ⟨keep a hy u, by rw [← Act.put_comm a v u h2]; exact he⟩
  | halt x w' =>
   cases x <;> simp only [Oper.upon] at h ⊢
   case panic u => exact hQ _ _ _ h
 ·rename_i hw
  simp only [hw] at h
  exact ⟨keep a hy _, by rw [← Act.put_comm a v undef h2]; exact h⟩
theorem wpAnyG_first {i : Nat} {oi : Oper} {v : Value} (hi : ops[i]? = some oi) (hsel : ∀ (j : Nat) (o : Oper) cs b, ops[j]? = some o → o.op ≠ .select cs b)
  (hQ : ∀ c a w, Q (.panic c) (a.put oi.dst v) w → Q (.panic c) a w) (hg : ∀ k w X, S k w → Below w.heap.size w X → S k X) :
  ∀ (f : Nat) (done : Array Bool) (a : Act) (w : World), Shutd md ops done →
   (∀ j oj, ops[j]? = some oj → j ≠ i → done.getD j true = false → (∀ e ∈ oj.after, Region.binds md e = true → e.on ≠ i) → oi.apart ops oj = true) →
   i ∈ Region.ready md ops done → YieldsG P ops (S i) oi v a → S i w →
   wpAnyG P md ops Q S f (done.setIfInBounds i true) (a.put oi.dst v) w → wpAnyG P md ops Q S (f + 1) done a w := by
 intro f
 induction f with
 | zero =>
  intro done a w hsh _ hr hy hS H X hX
  refine ⟨fun h => (by rw [h] at hr; cases hr), fun j hj => ?_⟩
  by_cases e : j = i
  ·subst e; exact hy.wpOp hi (hg _ _ _ hS hX) fun Y hY => ⟨fun k _ hk => hg k _ _ hk hY, fun Z hZ => H Z (below_go (below_go hX hY) hZ)⟩
  ·have := ready_mono hj e
   rw [(H X hX).1] at this
   cases this
 | succ f ih =>
  intro done a w hsh hfree hr hy hS H X hX
  refine ⟨fun h => (by rw [h] at hr; cases hr), fun j hj => ?_⟩
  by_cases e : j = i
  ·subst e; exact hy.wpOp hi (hg _ _ _ hS hX) fun Y hY => ⟨fun k _ hk => hg k _ _ hk hY, wpAnyG_grow _ _ _ _ _ (below_go hX hY) H⟩
  ·have h1 := (H X hX).2 j (ready_mono hj e)
   obtain ⟨hjun, oj, hoj, _⟩ := mem_ready.1 hj
   have nw : waitsT md ops ops.size j i = false := by
    cases h : waitsT md ops ops.size j i with
    | false => rfl
    | true =>
     have h0 := ready_T hsh hj h
     have h2 := getD_both (mem_ready.1 hr).1
     rw [h0] at h2
     cases h2
   have h2 := wpOp_putG hoj (hfree j oj hoj e hjun (edge_ne hoj hj hr)) (fun cs b => hsel i oi cs b hi) (fun cs b => hsel j oj cs b hoj) hQ hy h1
   have hfree' : ∀ k ok, ops[k]? = some ok → k ≠ i → (done.setIfInBounds j true).getD k true = false → (∀ e ∈ ok.after, Region.binds md e = true → e.on ≠ i) → oi.apart ops ok = true := fun k ok hk hki hun hno => by
    refine hfree k ok hk hki ?_ hno
    by_cases hjk : j = k
    ·subst hjk; exact hjun
    ·rw [getD_set_ne true hjk] at hun; exact hun
   have hSX := hg _ _ _ hS hX
   refine wpOp_mono (fun a' w' h3 => ⟨h3.2.1, ?_⟩) h2
   have r2 := ready_mono hr (Ne.symm e)
   refine ih (done.setIfInBounds j true) a' w' (shut_set hsh hj) hfree' r2 h3.1 (h3.2.1 i nw hSX) ?_
   rw [Array.setIfInBounds_comm _ _ e]
   exact h3.2.2
def shutB (md : Region.Mode) (ops : Array Oper) (done : Array Bool) : Bool := (List.range ops.size).all fun m => match ops[m]? with
 | none => true
 | some om => !(done.getD m false) || om.after.all fun e => !(Region.binds md e) || done.getD e.on false
theorem shutB_spec {done : Array Bool} (h : shutB md ops done = true) : Shutd md ops done := by
 intro m om ho hm e he hb
 unfold shutB at h
 have h1 := List.all_eq_true.1 h m (List.mem_range.2 (Array.getElem?_eq_some_iff.1 ho).1)
 rw [ho] at h1
 simp only [hm, Bool.not_true, Bool.false_or, Array.all_eq_true_iff_forall_mem] at h1
 have h2 := h1 e he
 rw [hb] at h2
 simpa using h2
theorem take_G {oi : Oper} {f : Nat} {done : Array Bool} {a : Act} {w : World} (i : Nat) (v : Value) (d : Option Nat) (hg : ∀ k w X, S k w → Below w.heap.size w X → S k X) (hsh : shutB md ops done = true) (hi : ops[i]? = some oi) (hs : Region.noSelect ops = true) (hf : Region.free md ops done i = true)
  (hr : (Region.ready md ops done).contains i = true) (hd : oi.dst = d) (hQ : ∀ c a w, Q (.panic c) (a.put oi.dst v) w → Q (.panic c) a w) (hy : YieldsG P ops (S i) oi v a) (hS : S i w)
  (h : wpAnyG P md ops Q S f (done.setIfInBounds i true) (a.put d v) w) : wpAnyG P md ops Q S (f + 1) done a w :=
 wpAnyG_first hi (Region.noSelect_spec hs) hQ hg f done a w (shutB_spec hsh) (Region.free_spec hi hf) (by simpa using hr) hy hS (by rw [hd]; exact h)
theorem tG {oi : Oper} {f : Nat} {done : Array Bool} {a : Act} {w : World} (i : Nat) (v : Value) (d : Option Nat) (hg : ∀ k w X, S k w → Below w.heap.size w X → S k X) (hi : ops[i]? = some oi) (hy : YieldsG P ops (S i) oi v a) (hS : S i w)
 (h : wpAnyG P md ops Q S f (done.setIfInBounds i true) (a.put d v) w) (hsh : shutB md ops done = true := by kernel_rfl) (hs : Region.noSelect ops = true := by kernel_rfl) (hf : Region.free md ops done i = true := by kernel_rfl)
 (hr : (Region.ready md ops done).contains i = true := by kernel_rfl) (hd : oi.dst = d := by rfl) (hQ : ∀ c a w, Q (.panic c) (a.put oi.dst v) w → Q (.panic c) a w := by exact fun _ _ _ h => h) : wpAnyG P md ops Q S (f + 1) done a w :=
 take_G i v d hg hsh hi hs hf hr hd hQ hy hS h
theorem only_G {o : Oper} {f : Nat} {done : Array Bool} {a : Act} {w : World} (i : Nat) (hr : Region.ready md ops done = [i]) (ho : ops[i]? = some o)
  (h : ∀ X : World, Below w.heap.size w X → ∀ K' : Act → World → Prop, Shut (∀ a' w', Keeps md ops S i X w' → wpAnyG P md ops Q S f (done.setIfInBounds i true) a' w' → K' a' w') → if Region.wanted o (yielded ops a.tmps) = true then Oper.wp P o a X K' Q else K' (a.put o.dst undef) X) :
  wpAnyG P md ops Q S (f + 1) done a w := fun X hX =>
 ⟨fun h0 => (by rw [hr] at h0; cases h0), fun j hj => by
  rw [hr] at hj
  have e : j = i := by simpa using hj
  subst e
  exact wpOp_step ho (fun K' hK => h X hX K' (fun a' w' h1 h2 => hK a' w' ⟨h1, h2⟩))⟩
theorem done_G {done : Array Bool} {a : Act} {w : World} (hr : Region.ready md ops done = []) (h : ∀ X : World, Below w.heap.size w X → Q .normal a X) : ∀ f, wpAnyG P md ops Q S f done a w
 | 0 => fun X hX => ⟨hr, h X hX⟩
 | _ + 1 => fun X hX => ⟨fun _ => h X hX, by rw [hr]; simp⟩
theorem region_G {id : Nat} {a : Act} {w : World} (hm : P.follows .mixedOrders = true) (h : wpAnyG P .any ops Q S ops.size (Array.replicate ops.size false) a w.drew) : (Code.region id ops true).wp P Q a w :=
 wp_region_any hm (wpAny_of_G _ _ _ _ h)
end
def GK (L : List (Nat × Nat × Obj)) (k : Nat) (X : World) : Prop := ∀ p ∈ L, p.1 = k → X.heap[p.2.1]? = some p.2.2
theorem GK.grow (L : List (Nat × Nat × Obj)) : ∀ k (w X : World), GK L k w → Below w.heap.size w X → GK L k X := fun k w X h hb p hp e => blk_next hb (h p hp e)
theorem GK.drop {L : List (Nat × Nat × Obj)} {k : Nat} {Y : World} (h : ∀ p ∈ L, p.1 ≠ k) : GK L k Y := fun p hp e => absurd e (h p hp)
theorem GK.drew {L : List (Nat × Nat × Obj)} {k : Nat} {w : World} (h : GK L k w) : GK L k w.drew := fun p hp e => h p hp e
theorem GK.set {L : List (Nat × Nat × Obj)} {k b off : Nat} {X : World} {v : Value} (h : GK L k X) (hn : ∀ p ∈ L, p.1 = k → p.2.1 ≠ b) : GK L k (X.setCell ⟨b, off, none⟩ v) := fun p hp e => blk_set_other (h p hp e) (fun hh => hn p hp e hh.symm) _ _
theorem GK.alloc {L : List (Nat × Nat × Obj)} {k : Nat} {X : World} (h : GK L k X) (o : Obj) : GK L k (X.alloc o) := fun p hp e => blk_alloc (h p hp e) o
end Go.Proofs.YtbbnkclajpaghaaGreatDoor
