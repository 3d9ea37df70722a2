/- Several texts in one. -/
import Derived.Test.YtbbnkclajpaghaaGreatDoorME23
import Derived.Test.YtbbnkclajpaghaaGreatDoorME24
set_option maxHeartbeats 16000000
set_option maxRecDepth 100000
set_option linter.unusedVariables false
set_option linter.unusedSimpArgs false
namespace Go.Proofs.YtbbnkclajpaghaaGreatDoor
open Go.ChangeShapes Go.WideShapes Go.ChangeAt Go.RowKit
attribute [local go_sem ↓] Go.wp_at_zero Go.wp_at_succ
theorem great_of (t c : Int) (A : Option Addr) (n cap : Nat) (b : Bool) (h : decide (600 < n) = b) (w : World) : Calls Tryz.prog 23 #[Mv t c A n cap] w fun e w' => e = .returned (.bool b) ∧ Below w.heap.size w w' := by
 rw [← h]; exact great_calls t c A n cap w
theorem mask_of (t c : Int) (A : Option Addr) (b : List Bool) (cap : Nat) (hb : b.length ≤ 1000000) (x : Int) (h : mskE t c b = x) (w : World) : Calls Tryz.prog 24 #[Mv t c A b.length cap] w fun e w' => e = .returned (.int .i64 x) ∧ Below w.heap.size w w' := by
 rw [← h]; exact refmask_calls t c A b cap hb w
theorem RT.ob {w : World} {A : Option Addr} {l : List Vr} (h : RT w A l) {k : Nat} (hk : k < l.length) : ∃ b off ob, A = some ⟨b, off, none⟩ ∧ b < w.heap.size ∧ w.heap[b]? = some ob ∧ ∀ X : World, X.heap[b]? = some ob → ∀ j u, (vr8 (rowAt l k))[j]? = some u → X.cell? ⟨b, off + k * 8 + j, none⟩ = some u := by
 obtain ⟨b, off, e, hl, hc⟩ := Rd.at_ (n := 0) h vr8_len hk
 refine ⟨b, off, w.heap[b], e, hl, by simp [hl], fun X hX j u hu => ?_⟩
 rw [World.cell?_of_block (w := w) (w' := X) (a := ⟨b, off + k * 8 + j, none⟩) (by rw [hX]; simp [hl])]
 rw [rowAt_lt hk] at hu
 exact hc j u hu
theorem put_of {W : World} {v : Value} {l : List Vr} (h : HR W v l) (r : Vr) : Calls Tryz.prog 21 #[v, Rwv r] W fun e w' => ∃ u, e = .returned (.tuple #[u, .int .i64 (putE l r)]) ∧ HR w' u (putL l r) ∧ Below W.heap.size W w' := by
 obtain ⟨A, c, rfl, h2, h3, h4, h5⟩ := h.ex
 exact (put_calls r h4 h5 h2 h3).mono fun e w' ⟨u, he, ho, hb⟩ => ⟨u, he, OR.hr ho, hb⟩
def eqR (s r : Vr) : Bool := s.t == r.t && (s.c == r.c && (s.i == r.i && (s.j == r.j && (s.re == r.re && (s.im == r.im && (s.dn == r.dn && s.n == r.n))))))
theorem eqR_iff {s r : Vr} : eqR s r = true ↔ s = r := by
 obtain ⟨a1, a2, a3, a4, a5, a6, a7, a8⟩ := s
 obtain ⟨b1, b2, b3, b4, b5, b6, b7, b8⟩ := r
 simp [eqR]
theorem ifR {α : Type} {s r : Vr} (x y : α) : (if s.t = r.t then if s.c = r.c then if s.i = r.i then if s.j = r.j then if s.re = r.re then if s.im = r.im then if s.dn = r.dn then if s.n = r.n then x else y else y else y else y else y else y else y else y) = if eqR s r = true then x else y := by
 by_cases h : eqR s r = true
 ·have e := eqR_iff.1 h
  subst e
  simp [h]
 ·rw [if_neg h]
  repeat' split
  all_goals first | rfl | (exfalso; apply h; simp [eqR, *])
theorem imR {s r : Vr} (h : eqR s r = false) : s.t = r.t → s.c = r.c → s.i = r.i → s.j = r.j → s.re = r.re → s.im = r.im → s.dn = r.dn → ¬s.n = r.n := by
 intro h1 h2 h3 h4 h5 h6 h7 h8
 have : eqR s r = true := by simp [eqR, h1, h2, h3, h4, h5, h6, h7, h8]
 rw [this] at h
 cases h
theorem zero_row {s : Vr} {n : Int} (h : rowB s = true) (hn : n = 0 ∨ n = s.n) : rowB { s with n := n } = true := by
 have h1 := rowB_facts h
 have h2 := vis_val (row_vis h)
 simp only [rowB, visB, valB, Bool.and_eq_true, decide_eq_true_eq] at h ⊢
 obtain ⟨a1, a2, a3, a4, a5, a6, a7, a8, a9, a10⟩ := h
 exact ⟨a1, a2, a3, a4, a5, a6, a7, a8, by omega, by omega⟩
theorem ldrops_calls {A Ap Aq : Option Addr} {cp bp bq : Nat} {l : List Vr} {p q : List Bool} {w : World} (hl : RT w A l) (hA : ∀ b off, A = some ⟨b, off, none⟩ → b < w.heap.size) (hcp : l.length ≤ cp) (hcp' : cp ≤ 9223372036854775807) (pt pc qt qc : Int) (hp : RB w Ap p) (hq : RB w Aq q) (hbp : p.length ≤ bp) (hbq : q.length ≤ bq) (r : Vr) (g : GL w) :
  Calls Tryz.prog 7 #[.slice A l.length cp, Mv pt pc Ap p.length bp, Mv qt qc Aq q.length bq, Rwv r] w fun e w' => e = .returned (.bool true) ∧ Below w.heap.size w w' := by
 have NN := zh (Below.refl w.heap.size w)
 have AL := zh (fun W (h : Below w.heap.size w W) => alive_calls W (g.next h))
 have H0 : Hid (HR w (.slice A l.length cp) l) := zh ⟨⟨A, cp, rfl, hcp, hcp', hl, hA⟩⟩
 have HP := zh hp
 have HQ := zh hq
 obtain ⟨np, hnp⟩ : ∃ n, p.length = n := ⟨_, rfl⟩
 obtain ⟨nq, hnq⟩ : ∃ n, q.length = n := ⟨_, rfl⟩
 have LP := zh hnp
 have LQ := zh hnq
 rw [hnp] at hbp ⊢
 rw [hnq] at hbq ⊢
 clear hl hA g hp hq hnp hnq
 go_enter Tryz.func7, Tryz.ntmps7
 go_wp2_with fail
 have P : Hid ((((w.alloc (.cells #[.int .i64 pt, .int .i64 pc, .slice Ap np bp] 52)).alloc (.cells #[.int .i64 qt, .int .i64 qc, .slice Aq nq bq] 52)).alloc (.cells #[.int .i64 r.t, .int .i64 r.c, .int .i64 r.i, .int .i64 r.j, .int .i64 r.re, .int .i64 r.im, .int .i64 r.dn, .int .i64 r.n] 44)).heap[w.heap.size]? = some (.cells #[.int .i64 pt, .int .i64 pc, .slice Ap np bp] 52)) := zh (blk_alloc (blk_alloc (blk_new w _) _) _)
 have Q : Hid ((((w.alloc (.cells #[.int .i64 pt, .int .i64 pc, .slice Ap np bp] 52)).alloc (.cells #[.int .i64 qt, .int .i64 qc, .slice Aq nq bq] 52)).alloc (.cells #[.int .i64 r.t, .int .i64 r.c, .int .i64 r.i, .int .i64 r.j, .int .i64 r.re, .int .i64 r.im, .int .i64 r.dn, .int .i64 r.n] 44)).heap[w.heap.size + 1]? = some (.cells #[.int .i64 qt, .int .i64 qc, .slice Aq nq bq] 52)) := zh (blk_alloc (blk_at _ (by simp)) _)
 have R6 : Hid ((((w.alloc (.cells #[.int .i64 pt, .int .i64 pc, .slice Ap np bp] 52)).alloc (.cells #[.int .i64 qt, .int .i64 qc, .slice Aq nq bq] 52)).alloc (.cells #[.int .i64 r.t, .int .i64 r.c, .int .i64 r.i, .int .i64 r.j, .int .i64 r.re, .int .i64 r.im, .int .i64 r.dn, .int .i64 r.n] 44)).heap[w.heap.size + 1 + 1]? = some (.cells #[.int .i64 r.t, .int .i64 r.c, .int .i64 r.i, .int .i64 r.j, .int .i64 r.re, .int .i64 r.im, .int .i64 r.dn, .int .i64 r.n] 44)) := zh (blk_at _ (by simp))
 replace NN : Hid (Below w.heap.size w (((w.alloc (.cells #[.int .i64 pt, .int .i64 pc, .slice Ap np bp] 52)).alloc (.cells #[.int .i64 qt, .int .i64 qc, .slice Aq nq bq] 52)).alloc (.cells #[.int .i64 r.t, .int .i64 r.c, .int .i64 r.i, .int .i64 r.j, .int .i64 r.re, .int .i64 r.im, .int .i64 r.dn, .int .i64 r.n] 44))) := zh (Bal (Bal (Bal NN.out _) _) _)
 generalize (((w.alloc (.cells #[.int .i64 pt, .int .i64 pc, .slice Ap np bp] 52)).alloc (.cells #[.int .i64 qt, .int .i64 qc, .slice Aq nq bq] 52)).alloc (.cells #[.int .i64 r.t, .int .i64 r.c, .int .i64 r.i, .int .i64 r.j, .int .i64 r.re, .int .i64 r.im, .int .i64 r.dn, .int .i64 r.n] 44)) = W1 at *
 replace H0 := zh (HR.next H0.out NN.out)
 replace HP := zh (Rd.next NN.out HP.out)
 replace HQ := zh (Rd.next NN.out HQ.out)
 refine (AL.out _ NN.out).mono ?_
 rintro e w2 ⟨rfl, hb⟩
 replace NN := zh (Bgo NN.out hb)
 replace H0 := zh (HR.next H0.out hb)
 replace HP := zh (Rd.next hb HP.out)
 replace HQ := zh (Rd.next hb HQ.out)
 replace P := zn hb P
 replace Q := zn hb Q
 replace R6 := zn hb R6
 clear hb
 clear AL
 go_wp2_with fail
 refine (fit_of H0.out).mono ?_
 rintro e w3 ⟨rfl, hb⟩
 replace NN := zh (Bgo NN.out hb)
 replace H0 := zh (HR.next H0.out hb)
 replace HP := zh (Rd.next hb HP.out)
 replace HQ := zh (Rd.next hb HQ.out)
 replace P := zn hb P
 replace Q := zn hb Q
 replace R6 := zn hb R6
 clear hb
 cases hf : fitT l
 ·obtain ⟨c_P_0, f_P_0, c_P_1, f_P_1, c_P_2, f_P_2, l_P⟩ := zfl3 P
  obtain ⟨c_Q_0, f_Q_0, c_Q_1, f_Q_1, c_Q_2, f_Q_2, l_Q⟩ := zfl3 Q
  go_wp2_with fail
  clear c_P_0 f_P_0 c_P_1 f_P_1 c_P_2 f_P_2 l_P c_Q_0 f_Q_0 c_Q_1 f_Q_1 c_Q_2 f_Q_2 l_Q
  go_ret
  exact ⟨rfl, NN.out⟩
 obtain ⟨hck, h60⟩ := fitT_ok hf
 have HCK := zh hck
 have HLN := zh h60
 clear hf hck h60
 obtain ⟨c_P_0, f_P_0, c_P_1, f_P_1, c_P_2, f_P_2, l_P⟩ := zfl3 P
 obtain ⟨c_Q_0, f_Q_0, c_Q_1, f_Q_1, c_Q_2, f_Q_2, l_Q⟩ := zfl3 Q
 go_wp2_with fail
 clear c_P_0 f_P_0 c_P_1 f_P_1 c_P_2 f_P_2 l_P c_Q_0 f_Q_0 c_Q_1 f_Q_1 c_Q_2 f_Q_2 l_Q
 by_cases gP : 600 < np
 ·refine (great_of pt pc Ap np bp true (decide_eq_true gP) _).mono ?_
  rintro e w4 ⟨rfl, hb⟩
  replace NN := zh (Bgo NN.out hb)
  replace H0 := zh (HR.next H0.out hb)
  replace HP := zh (Rd.next hb HP.out)
  replace HQ := zh (Rd.next hb HQ.out)
  replace P := zn hb P
  replace Q := zn hb Q
  replace R6 := zn hb R6
  clear hb
  obtain ⟨c_P_0, f_P_0, c_P_1, f_P_1, c_P_2, f_P_2, l_P⟩ := zfl3 P
  obtain ⟨c_Q_0, f_Q_0, c_Q_1, f_Q_1, c_Q_2, f_Q_2, l_Q⟩ := zfl3 Q
  go_wp2_with fail
  clear c_P_0 f_P_0 c_P_1 f_P_1 c_P_2 f_P_2 l_P c_Q_0 f_Q_0 c_Q_1 f_Q_1 c_Q_2 f_Q_2 l_Q
  go_ret
  exact ⟨rfl, NN.out⟩
 refine (great_of pt pc Ap np bp false (decide_eq_false gP) _).mono ?_
 rintro e w5 ⟨rfl, hb⟩
 replace NN := zh (Bgo NN.out hb)
 replace H0 := zh (HR.next H0.out hb)
 replace HP := zh (Rd.next hb HP.out)
 replace HQ := zh (Rd.next hb HQ.out)
 replace P := zn hb P
 replace Q := zn hb Q
 replace R6 := zn hb R6
 clear hb
 obtain ⟨c_P_0, f_P_0, c_P_1, f_P_1, c_P_2, f_P_2, l_P⟩ := zfl3 P
 obtain ⟨c_Q_0, f_Q_0, c_Q_1, f_Q_1, c_Q_2, f_Q_2, l_Q⟩ := zfl3 Q
 go_wp2_with fail
 clear c_P_0 f_P_0 c_P_1 f_P_1 c_P_2 f_P_2 l_P c_Q_0 f_Q_0 c_Q_1 f_Q_1 c_Q_2 f_Q_2 l_Q
 by_cases gQ : 600 < nq
 ·refine (great_of qt qc Aq nq bq true (decide_eq_true gQ) _).mono ?_
  rintro e w6 ⟨rfl, hb⟩
  replace NN := zh (Bgo NN.out hb)
  replace H0 := zh (HR.next H0.out hb)
  replace HP := zh (Rd.next hb HP.out)
  replace HQ := zh (Rd.next hb HQ.out)
  replace P := zn hb P
  replace Q := zn hb Q
  replace R6 := zn hb R6
  clear hb
  obtain ⟨c_P_0, f_P_0, c_P_1, f_P_1, c_P_2, f_P_2, l_P⟩ := zfl3 P
  obtain ⟨c_Q_0, f_Q_0, c_Q_1, f_Q_1, c_Q_2, f_Q_2, l_Q⟩ := zfl3 Q
  go_wp2_with fail
  clear c_P_0 f_P_0 c_P_1 f_P_1 c_P_2 f_P_2 l_P c_Q_0 f_Q_0 c_Q_1 f_Q_1 c_Q_2 f_Q_2 l_Q
  go_ret
  exact ⟨rfl, NN.out⟩
 refine (great_of qt qc Aq nq bq false (decide_eq_false gQ) _).mono ?_
 rintro e w7 ⟨rfl, hb⟩
 replace NN := zh (Bgo NN.out hb)
 replace H0 := zh (HR.next H0.out hb)
 replace HP := zh (Rd.next hb HP.out)
 replace HQ := zh (Rd.next hb HQ.out)
 replace P := zn hb P
 replace Q := zn hb Q
 replace R6 := zn hb R6
 clear hb
 obtain ⟨c_P_0, f_P_0, c_P_1, f_P_1, c_P_2, f_P_2, l_P⟩ := zfl3 P
 obtain ⟨c_Q_0, f_Q_0, c_Q_1, f_Q_1, c_Q_2, f_Q_2, l_Q⟩ := zfl3 Q
 go_wp2_with fail
 clear c_P_0 f_P_0 c_P_1 f_P_1 c_P_2 f_P_2 l_P c_Q_0 f_Q_0 c_Q_1 f_Q_1 c_Q_2 f_Q_2 l_Q
 have CMP := zh (fun W => mask_of pt pc Ap p bp (by rw [LP.out]; omega) _ rfl W)
 rw [LP.out] at CMP
 by_cases mP : mskE pt pc p = 0
 rotate_left
 ·have qm : (mskE pt pc p != 0) = true := by simpa using mP
  generalize mskE pt pc p = x9 at *
  refine (CMP.out _).mono ?_
  rintro e w8 ⟨rfl, hb⟩
  replace NN := zh (Bgo NN.out hb)
  replace H0 := zh (HR.next H0.out hb)
  replace HP := zh (Rd.next hb HP.out)
  replace HQ := zh (Rd.next hb HQ.out)
  replace P := zn hb P
  replace Q := zn hb Q
  replace R6 := zn hb R6
  clear hb
  obtain ⟨c_P_0, f_P_0, c_P_1, f_P_1, c_P_2, f_P_2, l_P⟩ := zfl3 P
  obtain ⟨c_Q_0, f_Q_0, c_Q_1, f_Q_1, c_Q_2, f_Q_2, l_Q⟩ := zfl3 Q
  go_wp2_with fail
  clear c_P_0 f_P_0 c_P_1 f_P_1 c_P_2 f_P_2 l_P c_Q_0 f_Q_0 c_Q_1 f_Q_1 c_Q_2 f_Q_2 l_Q
  go_ret
  exact ⟨rfl, NN.out⟩
 rw [mP] at CMP
 refine (CMP.out _).mono ?_
 rintro e w9 ⟨rfl, hb⟩
 replace NN := zh (Bgo NN.out hb)
 replace H0 := zh (HR.next H0.out hb)
 replace HP := zh (Rd.next hb HP.out)
 replace HQ := zh (Rd.next hb HQ.out)
 replace P := zn hb P
 replace Q := zn hb Q
 replace R6 := zn hb R6
 clear hb
 clear CMP
 obtain ⟨c_P_0, f_P_0, c_P_1, f_P_1, c_P_2, f_P_2, l_P⟩ := zfl3 P
 obtain ⟨c_Q_0, f_Q_0, c_Q_1, f_Q_1, c_Q_2, f_Q_2, l_Q⟩ := zfl3 Q
 go_wp2_with fail
 clear c_P_0 f_P_0 c_P_1 f_P_1 c_P_2 f_P_2 l_P c_Q_0 f_Q_0 c_Q_1 f_Q_1 c_Q_2 f_Q_2 l_Q
 have CMQ := zh (fun W => mask_of qt qc Aq q bq (by rw [LQ.out]; omega) _ rfl W)
 rw [LQ.out] at CMQ
 by_cases mQ : mskE qt qc q = 0
 rotate_left
 ·have qm : (mskE qt qc q != 0) = true := by simpa using mQ
  generalize mskE qt qc q = x9 at *
  refine (CMQ.out _).mono ?_
  rintro e w10 ⟨rfl, hb⟩
  replace NN := zh (Bgo NN.out hb)
  replace H0 := zh (HR.next H0.out hb)
  replace HP := zh (Rd.next hb HP.out)
  replace HQ := zh (Rd.next hb HQ.out)
  replace P := zn hb P
  replace Q := zn hb Q
  replace R6 := zn hb R6
  clear hb
  obtain ⟨c_P_0, f_P_0, c_P_1, f_P_1, c_P_2, f_P_2, l_P⟩ := zfl3 P
  obtain ⟨c_Q_0, f_Q_0, c_Q_1, f_Q_1, c_Q_2, f_Q_2, l_Q⟩ := zfl3 Q
  go_wp2_with fail
  clear c_P_0 f_P_0 c_P_1 f_P_1 c_P_2 f_P_2 l_P c_Q_0 f_Q_0 c_Q_1 f_Q_1 c_Q_2 f_Q_2 l_Q
  go_ret
  exact ⟨rfl, NN.out⟩
 rw [mQ] at CMQ
 refine (CMQ.out _).mono ?_
 rintro e w11 ⟨rfl, hb⟩
 replace NN := zh (Bgo NN.out hb)
 replace H0 := zh (HR.next H0.out hb)
 replace HP := zh (Rd.next hb HP.out)
 replace HQ := zh (Rd.next hb HQ.out)
 replace P := zn hb P
 replace Q := zn hb Q
 replace R6 := zn hb R6
 clear hb
 clear CMQ
 by_cases ept : pt = qt
 rotate_left
 ·have qm : (pt != qt) = true := by simpa using ept
  obtain ⟨c_P_0, f_P_0, c_P_1, f_P_1, c_P_2, f_P_2, l_P⟩ := zfl3 P
  obtain ⟨c_Q_0, f_Q_0, c_Q_1, f_Q_1, c_Q_2, f_Q_2, l_Q⟩ := zfl3 Q
  go_wp2_with fail
  clear c_P_0 f_P_0 c_P_1 f_P_1 c_P_2 f_P_2 l_P c_Q_0 f_Q_0 c_Q_1 f_Q_1 c_Q_2 f_Q_2 l_Q
  go_ret
  exact ⟨rfl, NN.out⟩
 subst ept
 by_cases epc : pc = qc
 rotate_left
 ·have qm : (pc != qc) = true := by simpa using epc
  obtain ⟨c_P_0, f_P_0, c_P_1, f_P_1, c_P_2, f_P_2, l_P⟩ := zfl3 P
  obtain ⟨c_Q_0, f_Q_0, c_Q_1, f_Q_1, c_Q_2, f_Q_2, l_Q⟩ := zfl3 Q
  go_wp2_with fail
  clear c_P_0 f_P_0 c_P_1 f_P_1 c_P_2 f_P_2 l_P c_Q_0 f_Q_0 c_Q_1 f_Q_1 c_Q_2 f_Q_2 l_Q
  go_ret
  exact ⟨rfl, NN.out⟩
 subst epc
 have hpq : q.length = p.length := by have h1 := (msk_len mP).1; have h2 := (msk_len mQ).1; omega
 have HE1 := zh (drpE_jn (l := l) mP hpq)
 have HE2 := zh (drpE_two HCK.out mP)
 have HDR := zh (fun h0 => drp_rows (l := l) hpq mP h0)
 have HJL : Hid ((jn p q).length = np) := zh (by rw [jn_len hpq, LP.out])
 have CJ := zh (fun W (h1 : RB W Ap p) (h2 : RB W Aq q) => fjoin_calls (cp := bp) (cq := bq) h1 h2 (by rw [LP.out]; exact hbp) (by rw [LQ.out]; exact hbq) mP mQ)
 rw [LP.out, LQ.out, HJL.out] at CJ
 have CD1 := zh (fun W (h : HR W (.slice A l.length cp) l) (hb : RB W Ap p) => drop_of h (cm := bp) pt pc hb (by rw [LP.out]; omega) (by rw [LP.out]; exact hbp))
 have CD2 := zh (fun W (Aj : Option Addr) (h : HR W (.slice A l.length cp) l) (hb : RB W Aj (jn p q)) => drop_of h (cm := np) pt pc hb (by rw [HJL.out]; omega) (by rw [HJL.out]; exact Nat.le_refl _))
 rw [LP.out] at CD1
 rw [HJL.out, HE1.out] at CD2
 have HNO : Hid (drpE l pt pc p ≠ 0 → drpL l pt pc p = [] ∧ drpL l pt pc (jn p q) = []) := zh (fun h => ⟨drpL_no h, drpL_no (by rw [HE1.out]; exact h)⟩)
 obtain ⟨X, hX⟩ : ∃ X, drpL l pt pc p = X := ⟨_, rfl⟩
 obtain ⟨Y, hY⟩ : ∃ Y, drpL l pt pc (jn p q) = Y := ⟨_, rfl⟩
 obtain ⟨e1, he1⟩ : ∃ e, drpE l pt pc p = e := ⟨_, rfl⟩
 rw [he1, hX] at CD1
 rw [he1, hY] at CD2
 rw [he1, hX, hY] at HDR HNO
 rw [he1] at HE2
 clear HE1 mP mQ hX hY he1 hpq
 obtain ⟨c_P_0, f_P_0, c_P_1, f_P_1, c_P_2, f_P_2, l_P⟩ := zfl3 P
 obtain ⟨c_Q_0, f_Q_0, c_Q_1, f_Q_1, c_Q_2, f_Q_2, l_Q⟩ := zfl3 Q
 go_wp2_with fail
 clear c_P_0 f_P_0 c_P_1 f_P_1 c_P_2 f_P_2 l_P c_Q_0 f_Q_0 c_Q_1 f_Q_1 c_Q_2 f_Q_2 l_Q
 refine (CJ.out _ HP.out HQ.out).mono ?_
 rintro e w9 ⟨Aj, rfl, hj, -, hb⟩
 have HJ := zh hj
 replace NN := zh (Bgo NN.out hb)
 replace H0 := zh (HR.next H0.out hb)
 replace HP := zh (Rd.next hb HP.out)
 replace HQ := zh (Rd.next hb HQ.out)
 replace P := zn hb P
 replace Q := zn hb Q
 replace R6 := zn hb R6
 clear hb hj CJ
 try rw [HJL.out]
 go_upto_region 5 with fail
 obtain ⟨HB, JM⟩ := zl (w := w9) (.cells #[.int .i64 pt, .int .i64 pc, .slice Aj np np] 52)
 have LT_JM : Hid (w.heap.size < w9.heap.size ∧ w.heap.size + 1 < w9.heap.size ∧ w.heap.size + 1 + 1 < w9.heap.size ∧ w.heap.size ≤ w9.heap.size) := zh ⟨blk_lt P.out, blk_lt Q.out, blk_lt R6.out, NN.out.size⟩
 replace NN := zh (Bgo NN.out HB.out)
 replace H0 := zh (HR.next H0.out HB.out)
 replace HP := zh (Rd.next HB.out HP.out)
 replace HQ := zh (Rd.next HB.out HQ.out)
 replace HJ := zh (Rd.next HB.out HJ.out)
 replace P := zn HB P
 replace Q := zn HB Q
 replace R6 := zn HB R6
 clear HB
 generalize (w9.alloc (.cells #[.int .i64 pt, .int .i64 pc, .slice Aj np np] 52)) = W12 at *
 generalize w9.heap.size = gJ at *
 obtain ⟨c_P_0, f_P_0, c_P_1, f_P_1, c_P_2, f_P_2, l_P⟩ := zfl3 P
 go_wp2_with fail
 clear c_P_0 f_P_0 c_P_1 f_P_1 c_P_2 f_P_2 l_P
 refine (CD1.out _ H0.out HP.out).mono ?_
 rintro e w13 ⟨v1, rfl, hh, hb⟩
 have X1 := zh hh
 clear hh
 replace NN := zh (Bgo NN.out hb)
 replace H0 := zh (HR.next H0.out hb)
 replace HP := zh (Rd.next hb HP.out)
 replace HQ := zh (Rd.next hb HQ.out)
 replace HJ := zh (Rd.next hb HJ.out)
 replace P := zn hb P
 replace Q := zn hb Q
 replace R6 := zn hb R6
 replace JM := zn hb JM
 clear hb
 obtain ⟨c_JM_0, f_JM_0, c_JM_1, f_JM_1, c_JM_2, f_JM_2, l_JM⟩ := zfl3 JM
 go_wp2_with fail
 clear c_JM_0 f_JM_0 c_JM_1 f_JM_1 c_JM_2 f_JM_2 l_JM
 refine (CD2.out _ _ H0.out HJ.out).mono ?_
 rintro e w14 ⟨v2, rfl, hh, hb⟩
 have X2 := zh hh
 clear hh
 replace NN := zh (Bgo NN.out hb)
 replace H0 := zh (HR.next H0.out hb)
 replace HP := zh (Rd.next hb HP.out)
 replace HQ := zh (Rd.next hb HQ.out)
 replace HJ := zh (Rd.next hb HJ.out)
 replace X1 := zh (HR.next X1.out hb)
 replace P := zn hb P
 replace Q := zn hb Q
 replace R6 := zn hb R6
 replace JM := zn hb JM
 clear hb
 clear CD1 CD2
 clear HP HQ HJ
 go_upto_region 7 with fail
 clear P Q JM LT_JM
 have HXL : Hid (Y.length = X.length ∧ X.length ≤ l.length ∧ (e1 = 0 → X.length = l.length) ∧ ∀ k, k < X.length → Dr (rowAt l k) (rowAt X k) (rowAt Y k)) := zh (by by_cases h : e1 = 0; (obtain ⟨h1, h2, h3⟩ := HDR.out h; exact ⟨by omega, by omega, fun _ => h1, fun k hk => h3 k (by omega)⟩); (obtain ⟨h1, h2⟩ := HNO.out h; subst h1 h2; exact ⟨rfl, Nat.zero_le _, fun h9 => absurd h9 h, fun k hk => absurd hk (by simp)⟩))
 clear HDR HNO
 obtain ⟨A1, c1, e9, hc1, hm1, ht1, -⟩ := X1.out.ex
 subst e9
 obtain ⟨A2, c2, e9, hc2, hm2, ht2, -⟩ := X2.out.ex
 have hyx := HXL.out.1
 rw [hyx] at e9 hc2
 subst e9
 obtain ⟨A9, c9, e9, -, -, ht0, -⟩ := H0.out.ex
 injection e9 with e9 _ e8
 subst e9 e8
 have T1 : Hid (RT w14 A1 X) := zh ht1
 have T2 : Hid (RT w14 A2 Y) := zh ht2
 have T0 : Hid (RT w14 A l) := zh ht0
 clear ht1 ht2 ht0 hyx X1 X2
 go_cut [113] (fun s9 wx => s9 = .bool false ∧ Hid (Below w14.heap.size w14 wx))
 case first =>
  have hxl := HXL.out.2.1
  have dXl : decide ((l.length : Int) < (X.length : Int)) = false := decide_eq_false (by omega)
  by_cases he : e1 = 0
  ·subst he
   have hx2 := HXL.out.2.2.1 rfl
   have q5 : ((X.length : Int) != (l.length : Int)) = false := by rw [hx2]; simp
   clear hx2
   go_wp2_with fail
   go_meet
   refine ⟨?_, zh (Below.refl _ _)⟩
   first | rfl | (simp; done) | (go_show)
  ·have he2 : e1 = 2 := by rcases HE2.out with h | h; exact absurd h he; exact h
   subst he2
   clear he
   go_wp2_with fail
   go_meet
   refine ⟨?_, zh (Below.refl _ _)⟩
   rfl
 case rest =>
  obtain ⟨rfl, HB9⟩ := hcut
  replace NN := zh (Bgo NN.out HB9.out)
  replace H0 := zh (HR.next H0.out HB9.out)
  replace T1 := zh (Rd.next HB9.out T1.out)
  replace T2 := zh (Rd.next HB9.out T2.out)
  replace T0 := zh (Rd.next HB9.out T0.out)
  replace R6 := zn HB9 R6
  clear HB9
  go_wp2_with fail
  obtain ⟨w0, hw0⟩ : ∃ z, z = wc := ⟨_, rfl⟩
  subst hw0
  have N0 := zh (Below.refl w0.heap.size w0)
  go_loopw [16] (fun q9 wr => ∃ k : Nat, k ≤ X.length ∧ q9 = .int .i64 (k : Int) ∧ Hid (Below w0.heap.size w0 wr)) (fun q9 _ => X.length - (intOf q9).toNat)
  case atStart => exact ⟨0, Nat.zero_le _, rfl, N0⟩
  case round =>
   clear N0
   obtain ⟨k, hk, rfl, N0⟩ := hrel
   by_cases hlt : X.length ≤ k
   ·as_aux_lemma =>
     have e : k = X.length := by omega
     subst e
     clear hk hlt T1 T2 T0 HXL HE2
     replace NN := zh (Bgo NN.out N0.out)
     replace H0 := zh (HR.next H0.out N0.out)
     replace R6 := zn N0 R6
     clear N0
     obtain ⟨c_R6_0, f_R6_0, c_R6_1, f_R6_1, c_R6_2, f_R6_2, c_R6_3, f_R6_3, c_R6_4, f_R6_4, c_R6_5, f_R6_5, c_R6_6, f_R6_6, c_R6_7, f_R6_7, l_R6⟩ := zfl8 R6
     go_wp2_with fail
     clear c_R6_0 f_R6_0 c_R6_1 f_R6_1 c_R6_2 f_R6_2 c_R6_3 f_R6_3 c_R6_4 f_R6_4 c_R6_5 f_R6_5 c_R6_6 f_R6_6 c_R6_7 f_R6_7 l_R6
     by_cases hp : putE l r = 0
     rotate_left
     ·have qm : (putE l r != 0) = true := by simpa using hp
      have CP := zh (put_of H0.out r)
      rw [put_no hp] at CP
      clear hp
      generalize putE l r = x9 at *
      refine (CP.out).mono ?_
      rintro e w15 ⟨vu, rfl, hh, hb⟩
      obtain ⟨A9, c9, rfl, -⟩ := hh.ex
      clear hh CP
      replace NN := zh (Bgo NN.out hb)
      replace H0 := zh (HR.next H0.out hb)
      replace R6 := zn hb R6
      clear hb
      go_wp2_with fail
      go_ret
      exact ⟨rfl, NN.out⟩
     have CP := zh (put_of H0.out r)
     rw [hp] at CP
     obtain ⟨s1, s2, s3⟩ := put_sel HCK.out hp
     have PL := zh (put_len HCK.out hp)
     have S1 := zh s1
     have S2 := zh s2
     have S3 := zh s3
     have PV := zh (put_ok HCK.out hp).1
     clear s1 s2 s3 hp
     generalize putL l r = U at *
     refine (CP.out).mono ?_
     rintro e w16 ⟨vu, rfl, hh, hb⟩
     have XU := zh hh
     clear hh CP
     replace NN := zh (Bgo NN.out hb)
     replace H0 := zh (HR.next H0.out hb)
     replace R6 := zn hb R6
     clear hb
     obtain ⟨c_R6_0, f_R6_0, c_R6_1, f_R6_1, c_R6_2, f_R6_2, c_R6_3, f_R6_3, c_R6_4, f_R6_4, c_R6_5, f_R6_5, c_R6_6, f_R6_6, c_R6_7, f_R6_7, l_R6⟩ := zfl8 R6
     go_wp2_with fail
     clear c_R6_0 f_R6_0 c_R6_1 f_R6_1 c_R6_2 f_R6_2 c_R6_3 f_R6_3 c_R6_4 f_R6_4 c_R6_5 f_R6_5 c_R6_6 f_R6_6 c_R6_7 f_R6_7 l_R6
     have CS := zh (sel_of XU.out r.i r.j)
     rw [S1.out] at CS
     generalize selL U r.i r.j = V at *
     refine (CS.out).mono ?_
     rintro e w17 ⟨vs, rfl, hh, hb⟩
     have XS := zh hh
     clear hh CS
     replace NN := zh (Bgo NN.out hb)
     replace H0 := zh (HR.next H0.out hb)
     replace XU := zh (HR.next XU.out hb)
     replace R6 := zn hb R6
     clear hb
     obtain ⟨Au, cu, e9, -⟩ := XU.out.ex
     subst e9
     obtain ⟨As, cs, e9, hcs, hms, hts, hbs⟩ := XS.out.ex
     subst e9
     rw [PL.out]
     have TS : Hid (RT w17 As V) := zh hts
     clear hts hbs XU XS
     clear H0
     go_wp2_with fail
     obtain ⟨wb, hwb⟩ : ∃ z, z = w17 := ⟨_, rfl⟩
     subst hwb
     have NB := zh (Below.refl wb.heap.size wb)
     go_loopw [21, 22] (fun p9 q9 wr => ∃ (f : Bool) (k : Nat), k ≤ V.length ∧ p9 = .bool f ∧ q9 = .int .i64 (k : Int) ∧ Hid ((∃ j, j < k ∧ rowAt V j = r) → f = true) ∧ Hid (Below wb.heap.size wb wr)) (fun _ q9 _ => V.length - (intOf q9).toNat)
     case atStart => exact ⟨false, 0, Nat.zero_le _, rfl, rfl, zh (fun ⟨j, hj, _⟩ => absurd hj (Nat.not_lt_zero _)), NB⟩
     case round =>
      clear NB
      obtain ⟨f, k, hk, rfl, rfl, HF, NB⟩ := hrel
      by_cases hlt : V.length ≤ k
      ·have e : k = V.length := by omega
       subst e
       have hf : f = true := HF.out (by obtain ⟨j, hj, h⟩ := S2.out; exact ⟨j, hj, h⟩)
       subst hf
       clear hk hlt HF S2 S3 TS
       replace NN := zh (Bgo NN.out NB.out)
       replace R6 := zn NB R6
       clear NB
       have CV := zh (fun W => rcheck_calls r W)
       rw [visE_ok (row_vis PV.out)] at CV
       have h60 := HLN.out
       obtain ⟨c_R6_0, f_R6_0, c_R6_1, f_R6_1, c_R6_2, f_R6_2, c_R6_3, f_R6_3, c_R6_4, f_R6_4, c_R6_5, f_R6_5, c_R6_6, f_R6_6, c_R6_7, f_R6_7, l_R6⟩ := zfl8 R6
       go_wp2_with fail
       clear c_R6_0 f_R6_0 c_R6_1 f_R6_1 c_R6_2 f_R6_2 c_R6_3 f_R6_3 c_R6_4 f_R6_4 c_R6_5 f_R6_5 c_R6_6 f_R6_6 c_R6_7 f_R6_7 l_R6
       refine (CV.out _).mono ?_
       rintro e w18 ⟨rfl, hb⟩
       replace NN := zh (Bgo NN.out hb)
       replace R6 := zn hb R6
       clear hb
       clear CV
       go_wp2_with fail
       go_ret
       exact ⟨rfl, NN.out⟩
      replace hlt : k < V.length := by omega
      obtain ⟨b1, o1, ob1, e9, l1, hb9, hc9⟩ := RT.ob (Rd.next NB.out TS.out : RT wr As V) hlt
      subst e9
      have Z1 := zh hb9
      obtain ⟨s, hs⟩ : ∃ s, rowAt V k = s := ⟨_, rfl⟩
      rw [hs] at hc9
      have C1 := zh hc9
      have HS := zh hs
      have k1c : k < cs := by omega
      have HVK : Hid (k < V.length) := zh hlt
      clear hb9 hc9 hs
      replace NN := zh (Bgo NN.out NB.out)
      replace R6 := zn NB R6
      go_upto_region 22 with fail
      cases f
      rotate_left
      ·have HDRW := zh (Below.drew (Below.refl wr.heap.size wr))
       replace NN := zh (Bgo NN.out HDRW.out)
       replace NB := zh (Bgo NB.out HDRW.out)
       replace Z1 := zn HDRW Z1
       replace R6 := zn HDRW R6
       clear HDRW
       have HAL : Hid (∀ kx9 : Nat, GK [] kx9 wr.drew) := zh (fun kx9 => fun px9 hp e => absurd hp (by simp))
       refine region_H (S := GK []) (by kernel_rfl) (by kernel_rfl) (by kernel_rfl) ?_
       intro HC9
       refine take_H 0 (.bool true) (some 232) (GK.grow _) HC9 rfl (by kernel_rfl) rfl (fun _ _ _ h => h) (YieldsIf.toG (Or.inl ⟨by rfl, ?_⟩)) (GK.drop (by simp)) ?_
       ·intro X hX
        clear hX
        go_simp
        try (rw [ifR, he]; rfl)
        try exact imR he
       clear HC9
       intro HC9
       try simp only [Act.put, zA, zB, zC]
       refine take_H 1 (.bool true) (some 233) (GK.grow _) HC9 rfl (by kernel_rfl) rfl (fun _ _ _ h => h) (YieldsIf.toG (Or.inl ⟨by rfl, ?_⟩)) (GK.drop (by simp)) ?_
       ·intro X hX
        clear hX
        go_simp
        try (rw [ifR, he]; rfl)
        try exact imR he
       clear HC9
       intro HC9
       try simp only [Act.put, zA, zB, zC]
       refine take_H 2 (undef) (some 234) (GK.grow _) HC9 rfl (by kernel_rfl) rfl (fun _ _ _ h => h) (YieldsIf.toG (Or.inr ⟨by rfl, rfl⟩)) (GK.drop (by simp)) ?_
       clear HC9
       intro HC9
       try simp only [Act.put, zA, zB, zC]
       refine take_H 3 (undef) (some 235) (GK.grow _) HC9 rfl (by kernel_rfl) rfl (fun _ _ _ h => h) (YieldsIf.toG (Or.inr ⟨by rfl, rfl⟩)) (GK.drop (by simp)) ?_
       clear HC9
       intro HC9
       try simp only [Act.put, zA, zB, zC]
       refine take_H 4 (undef) (some 236) (GK.grow _) HC9 rfl (by kernel_rfl) rfl (fun _ _ _ h => h) (YieldsIf.toG (Or.inr ⟨by rfl, rfl⟩)) (GK.drop (by simp)) ?_
       clear HC9
       intro HC9
       try simp only [Act.put, zA, zB, zC]
       refine take_H 5 (undef) (some 237) (GK.grow _) HC9 rfl (by kernel_rfl) rfl (fun _ _ _ h => h) (YieldsIf.toG (Or.inr ⟨by rfl, rfl⟩)) (GK.drop (by simp)) ?_
       clear HC9
       intro HC9
       try simp only [Act.put, zA, zB, zC]
       refine take_H 6 (undef) (some 238) (GK.grow _) HC9 rfl (by kernel_rfl) rfl (fun _ _ _ h => h) (YieldsIf.toG (Or.inr ⟨by rfl, rfl⟩)) (GK.drop (by simp)) ?_
       clear HC9
       intro HC9
       try simp only [Act.put, zA, zB, zC]
       refine take_H 7 (undef) (some 239) (GK.grow _) HC9 rfl (by kernel_rfl) rfl (fun _ _ _ h => h) (YieldsIf.toG (Or.inr ⟨by rfl, rfl⟩)) (GK.drop (by simp)) ?_
       clear HC9
       intro HC9
       try simp only [Act.put, zA, zB, zC]
       refine take_H 8 (.bool true) (some 240) (GK.grow _) HC9 rfl (by kernel_rfl) rfl (fun _ _ _ h => h) (YieldsIf.toG (Or.inl ⟨by rfl, ?_⟩)) (GK.drop (by simp)) ?_
       ·intro X hX
        clear hX
        go_simp
        try (rw [ifR, he]; rfl)
        try exact imR he
       clear HC9
       intro HC9
       try simp only [Act.put, zA, zB, zC]
       refine take_H 9 (.bool true) (some 21) (GK.grow _) HC9 rfl (by kernel_rfl) rfl (fun _ _ _ h => h) (YieldsIf.toG (Or.inl ⟨by rfl, ?_⟩)) (GK.drop (by simp)) ?_
       ·intro X hX
        clear hX
        go_simp
        try (rw [ifR, he]; rfl)
        try exact imR he
       clear HC9
       intro HC9
       try simp only [Act.put, zA, zB, zC]
       clear HAL
       refine done_G (by kernel_rfl) (fun X19 hX => ?_) _
       replace NN := zh (Bgo NN.out hX)
       replace NB := zh (Bgo NB.out hX)
       replace Z1 := zn hX Z1
       replace R6 := zn hX R6
       clear hX
       go_wp2_with fail
       have hlt9 := HVK.out
       exact ⟨⟨_, k + 1, by omega, rfl, by go_num, zh (fun _ => rfl), NB⟩, by simp [intOf]; omega⟩
      cases he : eqR s r
      rotate_left
      ·have HDRW := zh (Below.drew (Below.refl wr.heap.size wr))
       replace NN := zh (Bgo NN.out HDRW.out)
       replace NB := zh (Bgo NB.out HDRW.out)
       replace Z1 := zn HDRW Z1
       replace R6 := zn HDRW R6
       clear HDRW
       have HAL : Hid (∀ kx9 : Nat, GK [(5, b1, ob1), (6, w.heap.size + 1 + 1, .cells #[.int .i64 r.t, .int .i64 r.c, .int .i64 r.i, .int .i64 r.j, .int .i64 r.re, .int .i64 r.im, .int .i64 r.dn, .int .i64 r.n] 44)] kx9 wr.drew) := zh (fun kx9 => fun px9 hp e => by
        simp only [List.mem_cons, List.not_mem_nil, or_false] at hp
        rcases hp with rfl | rfl
        ·exact Z1.out
        ·exact R6.out
       )
       refine region_H (S := GK [(5, b1, ob1), (6, w.heap.size + 1 + 1, .cells #[.int .i64 r.t, .int .i64 r.c, .int .i64 r.i, .int .i64 r.j, .int .i64 r.re, .int .i64 r.im, .int .i64 r.dn, .int .i64 r.n] 44)]) (by kernel_rfl) (by kernel_rfl) (by kernel_rfl) ?_
       intro HC9
       refine take_H 0 (.bool false) (some 232) (GK.grow _) HC9 rfl (by kernel_rfl) rfl (fun _ _ _ h => h) (YieldsIf.toG (Or.inl ⟨by rfl, ?_⟩)) (GK.drop (by simp)) ?_
       ·intro X hX
        clear hX
        go_simp
        try (rw [ifR, he]; rfl)
        try exact imR he
       clear HC9
       intro HC9
       try simp only [Act.put, zA, zB, zC]
       refine take_H 1 (.bool false) (some 233) (GK.grow _) HC9 rfl (by kernel_rfl) rfl (fun _ _ _ h => h) (YieldsIf.toG (Or.inl ⟨by rfl, ?_⟩)) (GK.drop (by simp)) ?_
       ·intro X hX
        clear hX
        go_simp
        try (rw [ifR, he]; rfl)
        try exact imR he
       clear HC9
       intro HC9
       try simp only [Act.put, zA, zB, zC]
       refine take_H 2 (.slice (some ⟨b1, o1, none⟩) V.length cs) (some 234) (GK.grow _) HC9 rfl (by kernel_rfl) rfl (fun _ _ _ h => h) (YieldsIf.toG (Or.inl ⟨by rfl, ?_⟩)) (GK.drop (by simp)) ?_
       ·intro X hX
        clear hX
        go_simp
        try (rw [ifR, he]; rfl)
        try exact imR he
       clear HC9
       intro HC9
       try simp only [Act.put, zA, zB, zC]
       refine take_H 3 (.int .i64 (k : Int)) (some 235) (GK.grow _) HC9 rfl (by kernel_rfl) rfl (fun _ _ _ h => h) (YieldsIf.toG (Or.inl ⟨by rfl, ?_⟩)) (GK.drop (by simp)) ?_
       ·intro X hX
        clear hX
        go_simp
        try (rw [ifR, he]; rfl)
        try exact imR he
       clear HC9
       intro HC9
       try simp only [Act.put, zA, zB, zC]
       refine take_H 4 (.pointer (some ⟨b1, o1 + k * 8, none⟩)) (some 236) (GK.grow _) HC9 rfl (by kernel_rfl) rfl (fun _ _ _ h => h) (YieldsIf.toG (Or.inl ⟨by rfl, ?_⟩)) (GK.drop (by simp)) ?_
       ·intro X hX
        clear hX
        go_simp
        try (rw [ifR, he]; rfl)
        try exact imR he
       clear HC9
       intro HC9
       try simp only [Act.put, zA, zB, zC]
       refine take_H 5 (.agg #[.int .i64 s.t, .int .i64 s.c, .int .i64 s.i, .int .i64 s.j, .int .i64 s.re, .int .i64 s.im, .int .i64 s.dn, .int .i64 s.n]) (some 237) (GK.grow _) HC9 rfl (by kernel_rfl) rfl (fun _ _ _ h => h) (YieldsIf.toG (Or.inl ⟨by rfl, ?_⟩)) (HAL.out 5) ?_
       ·intro X hX
        have hh := hX (5, b1, ob1) (List.Mem.head _) rfl
        have hh0 := (C1.out _ hh 0 _ rfl)
        simp only [Nat.add_zero] at hh0
        have hh1 := (C1.out _ hh 1 _ rfl)
        have hh2 := (C1.out _ hh 2 _ rfl)
        have hh3 := (C1.out _ hh 3 _ rfl)
        have hh4 := (C1.out _ hh 4 _ rfl)
        have hh5 := (C1.out _ hh 5 _ rfl)
        have hh6 := (C1.out _ hh 6 _ rfl)
        have hh7 := (C1.out _ hh 7 _ rfl)
        have hhl := blk_lt hh
        clear hh
        clear hX
        go_simp
        try (rw [ifR, he]; rfl)
        try exact imR he
       clear HC9
       intro HC9
       try simp only [Act.put, zA, zB, zC]
       refine take_H 6 (.agg #[.int .i64 r.t, .int .i64 r.c, .int .i64 r.i, .int .i64 r.j, .int .i64 r.re, .int .i64 r.im, .int .i64 r.dn, .int .i64 r.n]) (some 238) (GK.grow _) HC9 rfl (by kernel_rfl) rfl (fun _ _ _ h => h) (YieldsIf.toG (Or.inl ⟨by rfl, ?_⟩)) (HAL.out 6) ?_
       ·intro X hX
        have hh := hX (6, w.heap.size + 1 + 1, .cells #[.int .i64 r.t, .int .i64 r.c, .int .i64 r.i, .int .i64 r.j, .int .i64 r.re, .int .i64 r.im, .int .i64 r.dn, .int .i64 r.n] 44) (List.Mem.tail _ (List.Mem.head _)) rfl
        have hh0 := blk_cell hh 0 _ rfl
        have hh1 := blk_cell hh 1 _ rfl
        have hh2 := blk_cell hh 2 _ rfl
        have hh3 := blk_cell hh 3 _ rfl
        have hh4 := blk_cell hh 4 _ rfl
        have hh5 := blk_cell hh 5 _ rfl
        have hh6 := blk_cell hh 6 _ rfl
        have hh7 := blk_cell hh 7 _ rfl
        have hhl := blk_lt hh
        clear hh
        clear hX
        go_simp
        try (rw [ifR, he]; rfl)
        try exact imR he
       clear HC9
       intro HC9
       try simp only [Act.put, zA, zB, zC]
       refine take_H 7 (.bool true) (some 239) (GK.grow _) HC9 rfl (by kernel_rfl) rfl (fun _ _ _ h => h) (YieldsIf.toG (Or.inl ⟨by rfl, ?_⟩)) (GK.drop (by simp)) ?_
       ·intro X hX
        clear hX
        go_simp
        try (rw [ifR, he]; rfl)
        try exact imR he
       clear HC9
       intro HC9
       try simp only [Act.put, zA, zB, zC]
       refine take_H 8 (.bool true) (some 240) (GK.grow _) HC9 rfl (by kernel_rfl) rfl (fun _ _ _ h => h) (YieldsIf.toG (Or.inl ⟨by rfl, ?_⟩)) (GK.drop (by simp)) ?_
       ·intro X hX
        clear hX
        go_simp
        try (rw [ifR, he]; rfl)
        try exact imR he
       clear HC9
       intro HC9
       try simp only [Act.put, zA, zB, zC]
       refine take_H 9 (.bool true) (some 21) (GK.grow _) HC9 rfl (by kernel_rfl) rfl (fun _ _ _ h => h) (YieldsIf.toG (Or.inl ⟨by rfl, ?_⟩)) (GK.drop (by simp)) ?_
       ·intro X hX
        clear hX
        go_simp
        try (rw [ifR, he]; rfl)
        try exact imR he
       clear HC9
       intro HC9
       try simp only [Act.put, zA, zB, zC]
       clear HAL
       refine done_G (by kernel_rfl) (fun X20 hX => ?_) _
       replace NN := zh (Bgo NN.out hX)
       replace NB := zh (Bgo NB.out hX)
       replace Z1 := zn hX Z1
       replace R6 := zn hX R6
       clear hX
       go_wp2_with fail
       have hlt9 := HVK.out
       exact ⟨⟨_, k + 1, by omega, rfl, by go_num, zh (fun _ => rfl), NB⟩, by simp [intOf]; omega⟩
      ·have HDRW := zh (Below.drew (Below.refl wr.heap.size wr))
       replace NN := zh (Bgo NN.out HDRW.out)
       replace NB := zh (Bgo NB.out HDRW.out)
       replace Z1 := zn HDRW Z1
       replace R6 := zn HDRW R6
       clear HDRW
       have HAL : Hid (∀ kx9 : Nat, GK [(5, b1, ob1), (6, w.heap.size + 1 + 1, .cells #[.int .i64 r.t, .int .i64 r.c, .int .i64 r.i, .int .i64 r.j, .int .i64 r.re, .int .i64 r.im, .int .i64 r.dn, .int .i64 r.n] 44)] kx9 wr.drew) := zh (fun kx9 => fun px9 hp e => by
        simp only [List.mem_cons, List.not_mem_nil, or_false] at hp
        rcases hp with rfl | rfl
        ·exact Z1.out
        ·exact R6.out
       )
       refine region_H (S := GK [(5, b1, ob1), (6, w.heap.size + 1 + 1, .cells #[.int .i64 r.t, .int .i64 r.c, .int .i64 r.i, .int .i64 r.j, .int .i64 r.re, .int .i64 r.im, .int .i64 r.dn, .int .i64 r.n] 44)]) (by kernel_rfl) (by kernel_rfl) (by kernel_rfl) ?_
       intro HC9
       refine take_H 0 (.bool false) (some 232) (GK.grow _) HC9 rfl (by kernel_rfl) rfl (fun _ _ _ h => h) (YieldsIf.toG (Or.inl ⟨by rfl, ?_⟩)) (GK.drop (by simp)) ?_
       ·intro X hX
        clear hX
        go_simp
        try (rw [ifR, he]; rfl)
        try exact imR he
       clear HC9
       intro HC9
       try simp only [Act.put, zA, zB, zC]
       refine take_H 1 (.bool false) (some 233) (GK.grow _) HC9 rfl (by kernel_rfl) rfl (fun _ _ _ h => h) (YieldsIf.toG (Or.inl ⟨by rfl, ?_⟩)) (GK.drop (by simp)) ?_
       ·intro X hX
        clear hX
        go_simp
        try (rw [ifR, he]; rfl)
        try exact imR he
       clear HC9
       intro HC9
       try simp only [Act.put, zA, zB, zC]
       refine take_H 2 (.slice (some ⟨b1, o1, none⟩) V.length cs) (some 234) (GK.grow _) HC9 rfl (by kernel_rfl) rfl (fun _ _ _ h => h) (YieldsIf.toG (Or.inl ⟨by rfl, ?_⟩)) (GK.drop (by simp)) ?_
       ·intro X hX
        clear hX
        go_simp
        try (rw [ifR, he]; rfl)
        try exact imR he
       clear HC9
       intro HC9
       try simp only [Act.put, zA, zB, zC]
       refine take_H 3 (.int .i64 (k : Int)) (some 235) (GK.grow _) HC9 rfl (by kernel_rfl) rfl (fun _ _ _ h => h) (YieldsIf.toG (Or.inl ⟨by rfl, ?_⟩)) (GK.drop (by simp)) ?_
       ·intro X hX
        clear hX
        go_simp
        try (rw [ifR, he]; rfl)
        try exact imR he
       clear HC9
       intro HC9
       try simp only [Act.put, zA, zB, zC]
       refine take_H 4 (.pointer (some ⟨b1, o1 + k * 8, none⟩)) (some 236) (GK.grow _) HC9 rfl (by kernel_rfl) rfl (fun _ _ _ h => h) (YieldsIf.toG (Or.inl ⟨by rfl, ?_⟩)) (GK.drop (by simp)) ?_
       ·intro X hX
        clear hX
        go_simp
        try (rw [ifR, he]; rfl)
        try exact imR he
       clear HC9
       intro HC9
       try simp only [Act.put, zA, zB, zC]
       refine take_H 5 (.agg #[.int .i64 s.t, .int .i64 s.c, .int .i64 s.i, .int .i64 s.j, .int .i64 s.re, .int .i64 s.im, .int .i64 s.dn, .int .i64 s.n]) (some 237) (GK.grow _) HC9 rfl (by kernel_rfl) rfl (fun _ _ _ h => h) (YieldsIf.toG (Or.inl ⟨by rfl, ?_⟩)) (HAL.out 5) ?_
       ·intro X hX
        have hh := hX (5, b1, ob1) (List.Mem.head _) rfl
        have hh0 := (C1.out _ hh 0 _ rfl)
        simp only [Nat.add_zero] at hh0
        have hh1 := (C1.out _ hh 1 _ rfl)
        have hh2 := (C1.out _ hh 2 _ rfl)
        have hh3 := (C1.out _ hh 3 _ rfl)
        have hh4 := (C1.out _ hh 4 _ rfl)
        have hh5 := (C1.out _ hh 5 _ rfl)
        have hh6 := (C1.out _ hh 6 _ rfl)
        have hh7 := (C1.out _ hh 7 _ rfl)
        have hhl := blk_lt hh
        clear hh
        clear hX
        go_simp
        try (rw [ifR, he]; rfl)
        try exact imR he
       clear HC9
       intro HC9
       try simp only [Act.put, zA, zB, zC]
       refine take_H 6 (.agg #[.int .i64 r.t, .int .i64 r.c, .int .i64 r.i, .int .i64 r.j, .int .i64 r.re, .int .i64 r.im, .int .i64 r.dn, .int .i64 r.n]) (some 238) (GK.grow _) HC9 rfl (by kernel_rfl) rfl (fun _ _ _ h => h) (YieldsIf.toG (Or.inl ⟨by rfl, ?_⟩)) (HAL.out 6) ?_
       ·intro X hX
        have hh := hX (6, w.heap.size + 1 + 1, .cells #[.int .i64 r.t, .int .i64 r.c, .int .i64 r.i, .int .i64 r.j, .int .i64 r.re, .int .i64 r.im, .int .i64 r.dn, .int .i64 r.n] 44) (List.Mem.tail _ (List.Mem.head _)) rfl
        have hh0 := blk_cell hh 0 _ rfl
        have hh1 := blk_cell hh 1 _ rfl
        have hh2 := blk_cell hh 2 _ rfl
        have hh3 := blk_cell hh 3 _ rfl
        have hh4 := blk_cell hh 4 _ rfl
        have hh5 := blk_cell hh 5 _ rfl
        have hh6 := blk_cell hh 6 _ rfl
        have hh7 := blk_cell hh 7 _ rfl
        have hhl := blk_lt hh
        clear hh
        clear hX
        go_simp
        try (rw [ifR, he]; rfl)
        try exact imR he
       clear HC9
       intro HC9
       try simp only [Act.put, zA, zB, zC]
       refine take_H 7 (.bool false) (some 239) (GK.grow _) HC9 rfl (by kernel_rfl) rfl (fun _ _ _ h => h) (YieldsIf.toG (Or.inl ⟨by rfl, ?_⟩)) (GK.drop (by simp)) ?_
       ·intro X hX
        clear hX
        go_simp
        try (rw [ifR, he]; rfl)
        try exact imR he
       clear HC9
       intro HC9
       try simp only [Act.put, zA, zB, zC]
       refine take_H 8 (.bool false) (some 240) (GK.grow _) HC9 rfl (by kernel_rfl) rfl (fun _ _ _ h => h) (YieldsIf.toG (Or.inl ⟨by rfl, ?_⟩)) (GK.drop (by simp)) ?_
       ·intro X hX
        clear hX
        go_simp
        try (rw [ifR, he]; rfl)
        try exact imR he
       clear HC9
       intro HC9
       try simp only [Act.put, zA, zB, zC]
       refine take_H 9 (.bool false) (some 21) (GK.grow _) HC9 rfl (by kernel_rfl) rfl (fun _ _ _ h => h) (YieldsIf.toG (Or.inl ⟨by rfl, ?_⟩)) (GK.drop (by simp)) ?_
       ·intro X hX
        clear hX
        go_simp
        try (rw [ifR, he]; rfl)
        try exact imR he
       clear HC9
       intro HC9
       try simp only [Act.put, zA, zB, zC]
       clear HAL
       refine done_G (by kernel_rfl) (fun X21 hX => ?_) _
       replace NN := zh (Bgo NN.out hX)
       replace NB := zh (Bgo NB.out hX)
       replace Z1 := zn hX Z1
       replace R6 := zn hX R6
       clear hX
       go_wp2_with fail
       have hlt9 := HVK.out
       exact ⟨⟨_, k + 1, by omega, rfl, by go_num, zh (fun ⟨j, hj, h⟩ => by rcases Nat.lt_or_ge j k with h1 | h1; exact HF.out ⟨j, h1, h⟩; (have e9 : j = k := by omega); subst e9; rw [← HS.out, eqR_iff.2 h] at he; exact absurd he (by decide)), NB⟩, by simp [intOf]; omega⟩
   replace hlt : k < X.length := by omega
   have hkl : k < l.length := by have := HXL.out.2.1; omega
   have hky : k < Y.length := by have := HXL.out.1; omega
   obtain ⟨⟨da1, da2, da3, da4, da5, da6, da7⟩, ⟨db1, db2, db3, db4, db5, db6, db7⟩, dn⟩ := HXL.out.2.2.2 k hlt
   have hrb : rowB (rowAt l k) = true := by rw [rowAt_lt hkl]; exact goodF_row (chkE_good HCK.out).1 _ (List.getElem_mem hkl)
   have hn0 := (vis_val (row_vis hrb)).1
   obtain ⟨b1, o1, ob1, e9, l1, hb9, hc91⟩ := RT.ob (Rd.next N0.out T1.out : RT wr A1 X) hlt
   subst e9
   have Z1 := zh hb9
   clear hb9
   obtain ⟨b2, o2, ob2, e9, l2, hb9, hc92⟩ := RT.ob (Rd.next N0.out T2.out : RT wr A2 Y) hky
   subst e9
   have Z2 := zh hb9
   clear hb9
   obtain ⟨b0, o0, ob0, e9, l0, hb9, hc90⟩ := RT.ob (Rd.next N0.out T0.out : RT wr A l) hkl
   subst e9
   have Z0 := zh hb9
   clear hb9
   have k1c : k < c1 := by omega
   have k2c : k < c2 := by omega
   have k0c : k < cp := by omega
   have CA : Hid (∀ Z : World, Z.heap[b1]? = some ob1 → ∀ j u, (vr8 { rowAt l k with n := (rowAt X k).n })[j]? = some u → Z.cell? ⟨b1, o1 + k * 8 + j, none⟩ = some u) := zh (fun Z hZ j u hu => hc91 Z hZ j u (by simp only [vr8, da1, da2, da3, da4, da5, da6, da7]; exact hu))
   have CB : Hid (∀ Z : World, Z.heap[b2]? = some ob2 → ∀ j u, (vr8 { rowAt l k with n := (rowAt Y k).n })[j]? = some u → Z.cell? ⟨b2, o2 + k * 8 + j, none⟩ = some u) := zh (fun Z hZ j u hu => hc92 Z hZ j u (by simp only [vr8, db1, db2, db3, db4, db5, db6, db7]; exact hu))
   have CC := zh hc90
   have hna : (rowAt X k).n = 0 ∨ (rowAt X k).n = (rowAt l k).n := by omega
   have KA := zh (fun W => key_calls { rowAt l k with n := (rowAt X k).n } (zero_row hrb hna) W)
   have KT := zh (fun W => key_calls (rowAt l k) hrb W)
   have KV : Hid (vkey { rowAt l k with n := (rowAt X k).n } = vkey (rowAt l k)) := zh rfl
   rw [KV.out] at KA
   have HXK : Hid (k < X.length) := zh hlt
   clear da1 da2 da3 da4 da5 da6 da7 db1 db2 db3 db4 db5 db6 db7 hc91 hc92 hc90 hna KV hky
   generalize (rowAt X k).n = an at *
   generalize (rowAt Y k).n = bn at *
   generalize rowAt l k = s at *
   generalize vkey s = kv at *
   have hcs : (an = 0 ∧ bn = 0) ∨ (s.n ≠ 0 ∧ an = s.n ∧ bn = 0) ∨ (s.n ≠ 0 ∧ an = s.n ∧ bn = s.n) := by omega
   clear dn hrb
   go_upto_region 12 with fail
   have NN9 := NN
   clear NN R6
   have NN := N0
   rcases hcs with ⟨rfl, rfl⟩ | ⟨h1, rfl, rfl⟩ | ⟨h1, rfl, rfl⟩
   ·as_aux_lemma =>
     have HDRW := zh (Below.drew (Below.refl wr.heap.size wr))
     replace Z1 := zn HDRW Z1
     replace Z2 := zn HDRW Z2
     replace Z0 := zn HDRW Z0
     replace N0 := zh (Bgo N0.out HDRW.out)
     replace NN := zh (Bgo NN.out HDRW.out)
     clear HDRW
     have HAL : Hid (∀ kx9 : Nat, GK [(5, b2, ob2), (11, b1, ob1), (19, b1, ob1), (39, b2, ob2), (57, b1, ob1), (62, b0, ob0), (72, b1, ob1), (78, b0, ob0)] kx9 wr.drew) := zh (fun kx9 => fun px9 hp e => by
      simp only [List.mem_cons, List.not_mem_nil, or_false] at hp
      rcases hp with rfl | rfl | rfl | rfl | rfl | rfl | rfl | rfl
      ·exact Z2.out
      ·exact Z1.out
      ·exact Z1.out
      ·exact Z2.out
      ·exact Z1.out
      ·exact Z0.out
      ·exact Z1.out
      ·exact Z0.out
     )
     refine region_H (S := GK [(5, b2, ob2), (11, b1, ob1), (19, b1, ob1), (39, b2, ob2), (57, b1, ob1), (62, b0, ob0), (72, b1, ob1), (78, b0, ob0)]) (by kernel_rfl) (by kernel_rfl) (by kernel_rfl) ?_
     intro HC9
     refine take_H 0 (.slice (some ⟨b2, o2, none⟩) X.length c2) (some 120) (GK.grow _) HC9 rfl (by kernel_rfl) rfl (fun _ _ _ h => h) (YieldsIf.toG (Or.inl ⟨by rfl, ?_⟩)) (GK.drop (by simp)) ?_
     ·intro X hX
      clear hX
      go_simp
      try simp
     clear HC9
     intro HC9
     try simp only [Act.put, zA, zB, zC]
     refine take_H 1 (.int .i64 (k : Int)) (some 121) (GK.grow _) HC9 rfl (by kernel_rfl) rfl (fun _ _ _ h => h) (YieldsIf.toG (Or.inl ⟨by rfl, ?_⟩)) (GK.drop (by simp)) ?_
     ·intro X hX
      clear hX
      go_simp
      try simp
     clear HC9
     intro HC9
     try simp only [Act.put, zA, zB, zC]
     refine take_H 2 (.pointer (some ⟨b2, o2 + k * 8, none⟩)) (some 122) (GK.grow _) HC9 rfl (by kernel_rfl) rfl (fun _ _ _ h => h) (YieldsIf.toG (Or.inl ⟨by rfl, ?_⟩)) (GK.drop (by simp)) ?_
     ·intro X hX
      clear hX
      go_simp
      try simp
     clear HC9
     intro HC9
     try simp only [Act.put, zA, zB, zC]
     refine take_H 3 (.pointer (some ⟨b2, o2 + k * 8 + 2, none⟩)) (some 123) (GK.grow _) HC9 rfl (by kernel_rfl) rfl (fun _ _ _ h => h) (YieldsIf.toG (Or.inl ⟨by rfl, ?_⟩)) (GK.drop (by simp)) ?_
     ·intro X hX
      clear hX
      go_simp
      try simp
     clear HC9
     intro HC9
     try simp only [Act.put, zA, zB, zC]
     refine take_H 4 (.pointer (some ⟨b2, o2 + k * 8 + 7, none⟩)) (some 124) (GK.grow _) HC9 rfl (by kernel_rfl) rfl (fun _ _ _ h => h) (YieldsIf.toG (Or.inl ⟨by rfl, ?_⟩)) (GK.drop (by simp)) ?_
     ·intro X hX
      clear hX
      go_simp
      try simp
     clear HC9
     intro HC9
     try simp only [Act.put, zA, zB, zC]
     refine take_H 5 (.int .i64 0) (some 125) (GK.grow _) HC9 rfl (by kernel_rfl) rfl (fun _ _ _ h => h) (YieldsIf.toG (Or.inl ⟨by rfl, ?_⟩)) (HAL.out 5) ?_
     ·intro X hX
      have hh := hX (5, b2, ob2) (List.Mem.head _) rfl
      have hh0 := (CB.out _ hh 7 _ rfl)
      have hhl := blk_lt hh
      clear hh
      clear hX
      go_simp
      try simp
     clear HC9
     intro HC9
     try simp only [Act.put, zA, zB, zC]
     refine take_H 6 (.slice (some ⟨b1, o1, none⟩) X.length c1) (some 126) (GK.grow _) HC9 rfl (by kernel_rfl) rfl (fun _ _ _ h => h) (YieldsIf.toG (Or.inl ⟨by rfl, ?_⟩)) (GK.drop (by simp)) ?_
     ·intro X hX
      clear hX
      go_simp
      try simp
     clear HC9
     intro HC9
     try simp only [Act.put, zA, zB, zC]
     refine take_H 7 (.int .i64 (k : Int)) (some 127) (GK.grow _) HC9 rfl (by kernel_rfl) rfl (fun _ _ _ h => h) (YieldsIf.toG (Or.inl ⟨by rfl, ?_⟩)) (GK.drop (by simp)) ?_
     ·intro X hX
      clear hX
      go_simp
      try simp
     clear HC9
     intro HC9
     try simp only [Act.put, zA, zB, zC]
     refine take_H 8 (.pointer (some ⟨b1, o1 + k * 8, none⟩)) (some 128) (GK.grow _) HC9 rfl (by kernel_rfl) rfl (fun _ _ _ h => h) (YieldsIf.toG (Or.inl ⟨by rfl, ?_⟩)) (GK.drop (by simp)) ?_
     ·intro X hX
      clear hX
      go_simp
      try simp
     clear HC9
     intro HC9
     try simp only [Act.put, zA, zB, zC]
     refine take_H 9 (.pointer (some ⟨b1, o1 + k * 8 + 2, none⟩)) (some 129) (GK.grow _) HC9 rfl (by kernel_rfl) rfl (fun _ _ _ h => h) (YieldsIf.toG (Or.inl ⟨by rfl, ?_⟩)) (GK.drop (by simp)) ?_
     ·intro X hX
      clear hX
      go_simp
      try simp
     clear HC9
     intro HC9
     try simp only [Act.put, zA, zB, zC]
     refine take_H 10 (.pointer (some ⟨b1, o1 + k * 8 + 7, none⟩)) (some 130) (GK.grow _) HC9 rfl (by kernel_rfl) rfl (fun _ _ _ h => h) (YieldsIf.toG (Or.inl ⟨by rfl, ?_⟩)) (GK.drop (by simp)) ?_
     ·intro X hX
      clear hX
      go_simp
      try simp
     clear HC9
     intro HC9
     try simp only [Act.put, zA, zB, zC]
     refine take_H 11 (.int .i64 0) (some 131) (GK.grow _) HC9 rfl (by kernel_rfl) rfl (fun _ _ _ h => h) (YieldsIf.toG (Or.inl ⟨by rfl, ?_⟩)) (HAL.out 11) ?_
     ·intro X hX
      have hh := hX (11, b1, ob1) (List.Mem.tail _ (List.Mem.head _)) rfl
      have hh0 := (CA.out _ hh 7 _ rfl)
      have hhl := blk_lt hh
      clear hh
      clear hX
      go_simp
      try simp
     clear HC9
     intro HC9
     try simp only [Act.put, zA, zB, zC]
     refine take_H 12 (.bool false) (some 132) (GK.grow _) HC9 rfl (by kernel_rfl) rfl (fun _ _ _ h => h) (YieldsIf.toG (Or.inl ⟨by rfl, ?_⟩)) (GK.drop (by simp)) ?_
     ·intro X hX
      clear hX
      go_simp
      try simp
     clear HC9
     intro HC9
     try simp only [Act.put, zA, zB, zC]
     refine take_H 13 (.bool false) (some 133) (GK.grow _) HC9 rfl (by kernel_rfl) rfl (fun _ _ _ h => h) (YieldsIf.toG (Or.inl ⟨by rfl, ?_⟩)) (GK.drop (by simp)) ?_
     ·intro X hX
      clear hX
      go_simp
      try simp
     clear HC9
     intro HC9
     try simp only [Act.put, zA, zB, zC]
     refine take_H 14 (.slice (some ⟨b1, o1, none⟩) X.length c1) (some 134) (GK.grow _) HC9 rfl (by kernel_rfl) rfl (fun _ _ _ h => h) (YieldsIf.toG (Or.inl ⟨by rfl, ?_⟩)) (GK.drop (by simp)) ?_
     ·intro X hX
      clear hX
      go_simp
      try simp
     clear HC9
     intro HC9
     try simp only [Act.put, zA, zB, zC]
     refine take_H 15 (.int .i64 (k : Int)) (some 135) (GK.grow _) HC9 rfl (by kernel_rfl) rfl (fun _ _ _ h => h) (YieldsIf.toG (Or.inl ⟨by rfl, ?_⟩)) (GK.drop (by simp)) ?_
     ·intro X hX
      clear hX
      go_simp
      try simp
     clear HC9
     intro HC9
     try simp only [Act.put, zA, zB, zC]
     refine take_H 16 (.pointer (some ⟨b1, o1 + k * 8, none⟩)) (some 136) (GK.grow _) HC9 rfl (by kernel_rfl) rfl (fun _ _ _ h => h) (YieldsIf.toG (Or.inl ⟨by rfl, ?_⟩)) (GK.drop (by simp)) ?_
     ·intro X hX
      clear hX
      go_simp
      try simp
     clear HC9
     intro HC9
     try simp only [Act.put, zA, zB, zC]
     refine take_H 17 (.pointer (some ⟨b1, o1 + k * 8 + 2, none⟩)) (some 137) (GK.grow _) HC9 rfl (by kernel_rfl) rfl (fun _ _ _ h => h) (YieldsIf.toG (Or.inl ⟨by rfl, ?_⟩)) (GK.drop (by simp)) ?_
     ·intro X hX
      clear hX
      go_simp
      try simp
     clear HC9
     intro HC9
     try simp only [Act.put, zA, zB, zC]
     refine take_H 18 (.pointer (some ⟨b1, o1 + k * 8 + 7, none⟩)) (some 138) (GK.grow _) HC9 rfl (by kernel_rfl) rfl (fun _ _ _ h => h) (YieldsIf.toG (Or.inl ⟨by rfl, ?_⟩)) (GK.drop (by simp)) ?_
     ·intro X hX
      clear hX
      go_simp
      try simp
     clear HC9
     intro HC9
     try simp only [Act.put, zA, zB, zC]
     refine take_H 19 (.int .i64 0) (some 139) (GK.grow _) HC9 rfl (by kernel_rfl) rfl (fun _ _ _ h => h) (YieldsIf.toG (Or.inl ⟨by rfl, ?_⟩)) (HAL.out 19) ?_
     ·intro X hX
      have hh := hX (19, b1, ob1) (List.Mem.tail _ (List.Mem.tail _ (List.Mem.head _))) rfl
      have hh0 := (CA.out _ hh 7 _ rfl)
      have hhl := blk_lt hh
      clear hh
      clear hX
      go_simp
      try simp
     clear HC9
     intro HC9
     try simp only [Act.put, zA, zB, zC]
     refine take_H 20 (.bool false) (some 140) (GK.grow _) HC9 rfl (by kernel_rfl) rfl (fun _ _ _ h => h) (YieldsIf.toG (Or.inl ⟨by rfl, ?_⟩)) (GK.drop (by simp)) ?_
     ·intro X hX
      clear hX
      go_simp
      try simp
     clear HC9
     intro HC9
     try simp only [Act.put, zA, zB, zC]
     refine take_H 21 (.bool false) (some 141) (GK.grow _) HC9 rfl (by kernel_rfl) rfl (fun _ _ _ h => h) (YieldsIf.toG (Or.inl ⟨by rfl, ?_⟩)) (GK.drop (by simp)) ?_
     ·intro X hX
      clear hX
      go_simp
      try simp
     clear HC9
     intro HC9
     try simp only [Act.put, zA, zB, zC]
     refine take_H 22 (undef) (some 142) (GK.grow _) HC9 rfl (by kernel_rfl) rfl (fun _ _ _ h => h) (YieldsIf.toG (Or.inr ⟨by rfl, rfl⟩)) (GK.drop (by simp)) ?_
     clear HC9
     intro HC9
     try simp only [Act.put, zA, zB, zC]
     refine take_H 23 (undef) (some 143) (GK.grow _) HC9 rfl (by kernel_rfl) rfl (fun _ _ _ h => h) (YieldsIf.toG (Or.inr ⟨by rfl, rfl⟩)) (GK.drop (by simp)) ?_
     clear HC9
     intro HC9
     try simp only [Act.put, zA, zB, zC]
     refine take_H 24 (undef) (some 144) (GK.grow _) HC9 rfl (by kernel_rfl) rfl (fun _ _ _ h => h) (YieldsIf.toG (Or.inr ⟨by rfl, rfl⟩)) (GK.drop (by simp)) ?_
     clear HC9
     intro HC9
     try simp only [Act.put, zA, zB, zC]
     refine take_H 25 (undef) (some 145) (GK.grow _) HC9 rfl (by kernel_rfl) rfl (fun _ _ _ h => h) (YieldsIf.toG (Or.inr ⟨by rfl, rfl⟩)) (GK.drop (by simp)) ?_
     clear HC9
     intro HC9
     try simp only [Act.put, zA, zB, zC]
     refine take_H 26 (undef) (some 146) (GK.grow _) HC9 rfl (by kernel_rfl) rfl (fun _ _ _ h => h) (YieldsIf.toG (Or.inr ⟨by rfl, rfl⟩)) (GK.drop (by simp)) ?_
     clear HC9
     intro HC9
     try simp only [Act.put, zA, zB, zC]
     refine take_H 27 (undef) (some 147) (GK.grow _) HC9 rfl (by kernel_rfl) rfl (fun _ _ _ h => h) (YieldsIf.toG (Or.inr ⟨by rfl, rfl⟩)) (GK.drop (by simp)) ?_
     clear HC9
     intro HC9
     try simp only [Act.put, zA, zB, zC]
     refine take_H 28 (undef) (some 148) (GK.grow _) HC9 rfl (by kernel_rfl) rfl (fun _ _ _ h => h) (YieldsIf.toG (Or.inr ⟨by rfl, rfl⟩)) (GK.drop (by simp)) ?_
     clear HC9
     intro HC9
     try simp only [Act.put, zA, zB, zC]
     refine take_H 29 (undef) (some 149) (GK.grow _) HC9 rfl (by kernel_rfl) rfl (fun _ _ _ h => h) (YieldsIf.toG (Or.inr ⟨by rfl, rfl⟩)) (GK.drop (by simp)) ?_
     clear HC9
     intro HC9
     try simp only [Act.put, zA, zB, zC]
     refine take_H 30 (undef) (some 150) (GK.grow _) HC9 rfl (by kernel_rfl) rfl (fun _ _ _ h => h) (YieldsIf.toG (Or.inr ⟨by rfl, rfl⟩)) (GK.drop (by simp)) ?_
     clear HC9
     intro HC9
     try simp only [Act.put, zA, zB, zC]
     refine take_H 31 (.bool false) (some 151) (GK.grow _) HC9 rfl (by kernel_rfl) rfl (fun _ _ _ h => h) (YieldsIf.toG (Or.inl ⟨by rfl, ?_⟩)) (GK.drop (by simp)) ?_
     ·intro X hX
      clear hX
      go_simp
      try simp
     clear HC9
     intro HC9
     try simp only [Act.put, zA, zB, zC]
     refine take_H 32 (.bool false) (some 152) (GK.grow _) HC9 rfl (by kernel_rfl) rfl (fun _ _ _ h => h) (YieldsIf.toG (Or.inl ⟨by rfl, ?_⟩)) (GK.drop (by simp)) ?_
     ·intro X hX
      clear hX
      go_simp
      try simp
     clear HC9
     intro HC9
     try simp only [Act.put, zA, zB, zC]
     refine take_H 33 (.bool false) (some 153) (GK.grow _) HC9 rfl (by kernel_rfl) rfl (fun _ _ _ h => h) (YieldsIf.toG (Or.inl ⟨by rfl, ?_⟩)) (GK.drop (by simp)) ?_
     ·intro X hX
      clear hX
      go_simp
      try simp
     clear HC9
     intro HC9
     try simp only [Act.put, zA, zB, zC]
     refine take_H 34 (.slice (some ⟨b2, o2, none⟩) X.length c2) (some 154) (GK.grow _) HC9 rfl (by kernel_rfl) rfl (fun _ _ _ h => h) (YieldsIf.toG (Or.inl ⟨by rfl, ?_⟩)) (GK.drop (by simp)) ?_
     ·intro X hX
      clear hX
      go_simp
      try simp
     clear HC9
     intro HC9
     try simp only [Act.put, zA, zB, zC]
     refine take_H 35 (.int .i64 (k : Int)) (some 155) (GK.grow _) HC9 rfl (by kernel_rfl) rfl (fun _ _ _ h => h) (YieldsIf.toG (Or.inl ⟨by rfl, ?_⟩)) (GK.drop (by simp)) ?_
     ·intro X hX
      clear hX
      go_simp
      try simp
     clear HC9
     intro HC9
     try simp only [Act.put, zA, zB, zC]
     refine take_H 36 (.pointer (some ⟨b2, o2 + k * 8, none⟩)) (some 156) (GK.grow _) HC9 rfl (by kernel_rfl) rfl (fun _ _ _ h => h) (YieldsIf.toG (Or.inl ⟨by rfl, ?_⟩)) (GK.drop (by simp)) ?_
     ·intro X hX
      clear hX
      go_simp
      try simp
     clear HC9
     intro HC9
     try simp only [Act.put, zA, zB, zC]
     refine take_H 37 (.pointer (some ⟨b2, o2 + k * 8 + 2, none⟩)) (some 157) (GK.grow _) HC9 rfl (by kernel_rfl) rfl (fun _ _ _ h => h) (YieldsIf.toG (Or.inl ⟨by rfl, ?_⟩)) (GK.drop (by simp)) ?_
     ·intro X hX
      clear hX
      go_simp
      try simp
     clear HC9
     intro HC9
     try simp only [Act.put, zA, zB, zC]
     refine take_H 38 (.pointer (some ⟨b2, o2 + k * 8 + 7, none⟩)) (some 158) (GK.grow _) HC9 rfl (by kernel_rfl) rfl (fun _ _ _ h => h) (YieldsIf.toG (Or.inl ⟨by rfl, ?_⟩)) (GK.drop (by simp)) ?_
     ·intro X hX
      clear hX
      go_simp
      try simp
     clear HC9
     intro HC9
     try simp only [Act.put, zA, zB, zC]
     refine take_H 39 (.int .i64 0) (some 159) (GK.grow _) HC9 rfl (by kernel_rfl) rfl (fun _ _ _ h => h) (YieldsIf.toG (Or.inl ⟨by rfl, ?_⟩)) (HAL.out 39) ?_
     ·intro X hX
      have hh := hX (39, b2, ob2) (List.Mem.tail _ (List.Mem.tail _ (List.Mem.tail _ (List.Mem.head _)))) rfl
      have hh0 := (CB.out _ hh 7 _ rfl)
      have hhl := blk_lt hh
      clear hh
      clear hX
      go_simp
      try simp
     clear HC9
     intro HC9
     try simp only [Act.put, zA, zB, zC]
     refine take_H 40 (.bool false) (some 160) (GK.grow _) HC9 rfl (by kernel_rfl) rfl (fun _ _ _ h => h) (YieldsIf.toG (Or.inl ⟨by rfl, ?_⟩)) (GK.drop (by simp)) ?_
     ·intro X hX
      clear hX
      go_simp
      try simp
     clear HC9
     intro HC9
     try simp only [Act.put, zA, zB, zC]
     refine take_H 41 (.bool false) (some 161) (GK.grow _) HC9 rfl (by kernel_rfl) rfl (fun _ _ _ h => h) (YieldsIf.toG (Or.inl ⟨by rfl, ?_⟩)) (GK.drop (by simp)) ?_
     ·intro X hX
      clear hX
      go_simp
      try simp
     clear HC9
     intro HC9
     try simp only [Act.put, zA, zB, zC]
     refine take_H 42 (undef) (some 162) (GK.grow _) HC9 rfl (by kernel_rfl) rfl (fun _ _ _ h => h) (YieldsIf.toG (Or.inr ⟨by rfl, rfl⟩)) (GK.drop (by simp)) ?_
     clear HC9
     intro HC9
     try simp only [Act.put, zA, zB, zC]
     refine take_H 43 (undef) (some 163) (GK.grow _) HC9 rfl (by kernel_rfl) rfl (fun _ _ _ h => h) (YieldsIf.toG (Or.inr ⟨by rfl, rfl⟩)) (GK.drop (by simp)) ?_
     clear HC9
     intro HC9
     try simp only [Act.put, zA, zB, zC]
     refine take_H 44 (undef) (some 164) (GK.grow _) HC9 rfl (by kernel_rfl) rfl (fun _ _ _ h => h) (YieldsIf.toG (Or.inr ⟨by rfl, rfl⟩)) (GK.drop (by simp)) ?_
     clear HC9
     intro HC9
     try simp only [Act.put, zA, zB, zC]
     refine take_H 45 (undef) (some 165) (GK.grow _) HC9 rfl (by kernel_rfl) rfl (fun _ _ _ h => h) (YieldsIf.toG (Or.inr ⟨by rfl, rfl⟩)) (GK.drop (by simp)) ?_
     clear HC9
     intro HC9
     try simp only [Act.put, zA, zB, zC]
     refine take_H 46 (undef) (some 166) (GK.grow _) HC9 rfl (by kernel_rfl) rfl (fun _ _ _ h => h) (YieldsIf.toG (Or.inr ⟨by rfl, rfl⟩)) (GK.drop (by simp)) ?_
     clear HC9
     intro HC9
     try simp only [Act.put, zA, zB, zC]
     refine take_H 47 (undef) (some 167) (GK.grow _) HC9 rfl (by kernel_rfl) rfl (fun _ _ _ h => h) (YieldsIf.toG (Or.inr ⟨by rfl, rfl⟩)) (GK.drop (by simp)) ?_
     clear HC9
     intro HC9
     try simp only [Act.put, zA, zB, zC]
     refine take_H 48 (undef) (some 168) (GK.grow _) HC9 rfl (by kernel_rfl) rfl (fun _ _ _ h => h) (YieldsIf.toG (Or.inr ⟨by rfl, rfl⟩)) (GK.drop (by simp)) ?_
     clear HC9
     intro HC9
     try simp only [Act.put, zA, zB, zC]
     refine take_H 49 (undef) (some 169) (GK.grow _) HC9 rfl (by kernel_rfl) rfl (fun _ _ _ h => h) (YieldsIf.toG (Or.inr ⟨by rfl, rfl⟩)) (GK.drop (by simp)) ?_
     clear HC9
     intro HC9
     try simp only [Act.put, zA, zB, zC]
     refine take_H 50 (undef) (some 170) (GK.grow _) HC9 rfl (by kernel_rfl) rfl (fun _ _ _ h => h) (YieldsIf.toG (Or.inr ⟨by rfl, rfl⟩)) (GK.drop (by simp)) ?_
     clear HC9
     intro HC9
     try simp only [Act.put, zA, zB, zC]
     refine take_H 51 (.bool false) (some 171) (GK.grow _) HC9 rfl (by kernel_rfl) rfl (fun _ _ _ h => h) (YieldsIf.toG (Or.inl ⟨by rfl, ?_⟩)) (GK.drop (by simp)) ?_
     ·intro X hX
      clear hX
      go_simp
      try simp
     clear HC9
     intro HC9
     try simp only [Act.put, zA, zB, zC]
     refine take_H 52 (.bool false) (some 172) (GK.grow _) HC9 rfl (by kernel_rfl) rfl (fun _ _ _ h => h) (YieldsIf.toG (Or.inl ⟨by rfl, ?_⟩)) (GK.drop (by simp)) ?_
     ·intro X hX
      clear hX
      go_simp
      try simp
     clear HC9
     intro HC9
     try simp only [Act.put, zA, zB, zC]
     refine take_H 53 (.bool false) (some 173) (GK.grow _) HC9 rfl (by kernel_rfl) rfl (fun _ _ _ h => h) (YieldsIf.toG (Or.inl ⟨by rfl, ?_⟩)) (GK.drop (by simp)) ?_
     ·intro X hX
      clear hX
      go_simp
      try simp
     clear HC9
     intro HC9
     try simp only [Act.put, zA, zB, zC]
     refine take_H 54 (.slice (some ⟨b1, o1, none⟩) X.length c1) (some 174) (GK.grow _) HC9 rfl (by kernel_rfl) rfl (fun _ _ _ h => h) (YieldsIf.toG (Or.inl ⟨by rfl, ?_⟩)) (GK.drop (by simp)) ?_
     ·intro X hX
      clear hX
      go_simp
      try simp
     clear HC9
     intro HC9
     try simp only [Act.put, zA, zB, zC]
     refine take_H 55 (.int .i64 (k : Int)) (some 175) (GK.grow _) HC9 rfl (by kernel_rfl) rfl (fun _ _ _ h => h) (YieldsIf.toG (Or.inl ⟨by rfl, ?_⟩)) (GK.drop (by simp)) ?_
     ·intro X hX
      clear hX
      go_simp
      try simp
     clear HC9
     intro HC9
     try simp only [Act.put, zA, zB, zC]
     refine take_H 56 (.pointer (some ⟨b1, o1 + k * 8, none⟩)) (some 176) (GK.grow _) HC9 rfl (by kernel_rfl) rfl (fun _ _ _ h => h) (YieldsIf.toG (Or.inl ⟨by rfl, ?_⟩)) (GK.drop (by simp)) ?_
     ·intro X hX
      clear hX
      go_simp
      try simp
     clear HC9
     intro HC9
     try simp only [Act.put, zA, zB, zC]
     refine take_H 57 (.agg #[.int .i64 s.t, .int .i64 s.c, .int .i64 s.i, .int .i64 s.j, .int .i64 s.re, .int .i64 s.im, .int .i64 s.dn, .int .i64 0]) (some 177) (GK.grow _) HC9 rfl (by kernel_rfl) rfl (fun _ _ _ h => h) (YieldsIf.toG (Or.inl ⟨by rfl, ?_⟩)) (HAL.out 57) ?_
     ·intro X hX
      have hh := hX (57, b1, ob1) (List.Mem.tail _ (List.Mem.tail _ (List.Mem.tail _ (List.Mem.tail _ (List.Mem.head _))))) rfl
      have hh0 := (CA.out _ hh 0 _ rfl)
      simp only [Nat.add_zero] at hh0
      have hh1 := (CA.out _ hh 1 _ rfl)
      have hh2 := (CA.out _ hh 2 _ rfl)
      have hh3 := (CA.out _ hh 3 _ rfl)
      have hh4 := (CA.out _ hh 4 _ rfl)
      have hh5 := (CA.out _ hh 5 _ rfl)
      have hh6 := (CA.out _ hh 6 _ rfl)
      have hh7 := (CA.out _ hh 7 _ rfl)
      have hhl := blk_lt hh
      clear hh
      clear hX
      go_simp
      try simp
     clear HC9
     intro HC9
     try simp only [Act.put, zA, zB, zC]
     have CFn : ∀ (args : Array Value) (W : World), Sem.run Tryz.prog (callFunc 19 args) W = .ok (.enter 19 args) W := fun _ _ => by kernel_rfl
     refine take_H 58 (.int .i64 kv) (some 178) (GK.grow _) HC9 rfl (by kernel_rfl) rfl (fun _ _ _ h => h) (yieldsG_call 19 #[.agg #[.int .i64 s.t, .int .i64 s.c, .int .i64 s.i, .int .i64 s.j, .int .i64 s.re, .int .i64 s.im, .int .i64 s.dn, .int .i64 0]] (by rfl) ?_ (fun X hS => KA.out X)) (GK.drop (by simp)) ?_
     ·intro X hX
      clear hX
      go_simp
     clear CFn
     clear HC9
     intro HC9
     try simp only [Act.put, zA, zB, zC]
     refine take_H 59 (.slice (some ⟨b0, o0, none⟩) l.length cp) (some 179) (GK.grow _) HC9 rfl (by kernel_rfl) rfl (fun _ _ _ h => h) (YieldsIf.toG (Or.inl ⟨by rfl, ?_⟩)) (GK.drop (by simp)) ?_
     ·intro X hX
      clear hX
      go_simp
      try simp
     clear HC9
     intro HC9
     try simp only [Act.put, zA, zB, zC]
     refine take_H 60 (.int .i64 (k : Int)) (some 180) (GK.grow _) HC9 rfl (by kernel_rfl) rfl (fun _ _ _ h => h) (YieldsIf.toG (Or.inl ⟨by rfl, ?_⟩)) (GK.drop (by simp)) ?_
     ·intro X hX
      clear hX
      go_simp
      try simp
     clear HC9
     intro HC9
     try simp only [Act.put, zA, zB, zC]
     refine take_H 61 (.pointer (some ⟨b0, o0 + k * 8, none⟩)) (some 181) (GK.grow _) HC9 rfl (by kernel_rfl) rfl (fun _ _ _ h => h) (YieldsIf.toG (Or.inl ⟨by rfl, ?_⟩)) (GK.drop (by simp)) ?_
     ·intro X hX
      clear hX
      go_simp
      try simp
     clear HC9
     intro HC9
     try simp only [Act.put, zA, zB, zC]
     refine take_H 62 (.agg #[.int .i64 s.t, .int .i64 s.c, .int .i64 s.i, .int .i64 s.j, .int .i64 s.re, .int .i64 s.im, .int .i64 s.dn, .int .i64 s.n]) (some 182) (GK.grow _) HC9 rfl (by kernel_rfl) rfl (fun _ _ _ h => h) (YieldsIf.toG (Or.inl ⟨by rfl, ?_⟩)) (HAL.out 62) ?_
     ·intro X hX
      have hh := hX (62, b0, ob0) (List.Mem.tail _ (List.Mem.tail _ (List.Mem.tail _ (List.Mem.tail _ (List.Mem.tail _ (List.Mem.head _)))))) rfl
      have hh0 := (CC.out _ hh 0 _ rfl)
      simp only [Nat.add_zero] at hh0
      have hh1 := (CC.out _ hh 1 _ rfl)
      have hh2 := (CC.out _ hh 2 _ rfl)
      have hh3 := (CC.out _ hh 3 _ rfl)
      have hh4 := (CC.out _ hh 4 _ rfl)
      have hh5 := (CC.out _ hh 5 _ rfl)
      have hh6 := (CC.out _ hh 6 _ rfl)
      have hh7 := (CC.out _ hh 7 _ rfl)
      have hhl := blk_lt hh
      clear hh
      clear hX
      go_simp
      try simp
     clear HC9
     intro HC9
     try simp only [Act.put, zA, zB, zC]
     have CFn : ∀ (args : Array Value) (W : World), Sem.run Tryz.prog (callFunc 19 args) W = .ok (.enter 19 args) W := fun _ _ => by kernel_rfl
     refine take_H 63 (.int .i64 kv) (some 183) (GK.grow _) HC9 rfl (by kernel_rfl) rfl (fun _ _ _ h => h) (yieldsG_call 19 #[.agg #[.int .i64 s.t, .int .i64 s.c, .int .i64 s.i, .int .i64 s.j, .int .i64 s.re, .int .i64 s.im, .int .i64 s.dn, .int .i64 s.n]] (by rfl) ?_ (fun X hS => KT.out X)) (GK.drop (by simp)) ?_
     ·intro X hX
      clear hX
      go_simp
     clear CFn
     clear HC9
     intro HC9
     try simp only [Act.put, zA, zB, zC]
     refine take_H 64 (.bool false) (some 184) (GK.grow _) HC9 rfl (by kernel_rfl) rfl (fun _ _ _ h => h) (YieldsIf.toG (Or.inl ⟨by rfl, ?_⟩)) (GK.drop (by simp)) ?_
     ·intro X hX
      clear hX
      go_simp
      try simp
     clear HC9
     intro HC9
     try simp only [Act.put, zA, zB, zC]
     refine take_H 65 (.bool false) (some 185) (GK.grow _) HC9 rfl (by kernel_rfl) rfl (fun _ _ _ h => h) (YieldsIf.toG (Or.inl ⟨by rfl, ?_⟩)) (GK.drop (by simp)) ?_
     ·intro X hX
      clear hX
      go_simp
      try simp
     clear HC9
     intro HC9
     try simp only [Act.put, zA, zB, zC]
     refine take_H 66 (.bool false) (some 186) (GK.grow _) HC9 rfl (by kernel_rfl) rfl (fun _ _ _ h => h) (YieldsIf.toG (Or.inl ⟨by rfl, ?_⟩)) (GK.drop (by simp)) ?_
     ·intro X hX
      clear hX
      go_simp
      try simp
     clear HC9
     intro HC9
     try simp only [Act.put, zA, zB, zC]
     refine take_H 67 (.slice (some ⟨b1, o1, none⟩) X.length c1) (some 187) (GK.grow _) HC9 rfl (by kernel_rfl) rfl (fun _ _ _ h => h) (YieldsIf.toG (Or.inl ⟨by rfl, ?_⟩)) (GK.drop (by simp)) ?_
     ·intro X hX
      clear hX
      go_simp
      try simp
     clear HC9
     intro HC9
     try simp only [Act.put, zA, zB, zC]
     refine take_H 68 (.int .i64 (k : Int)) (some 188) (GK.grow _) HC9 rfl (by kernel_rfl) rfl (fun _ _ _ h => h) (YieldsIf.toG (Or.inl ⟨by rfl, ?_⟩)) (GK.drop (by simp)) ?_
     ·intro X hX
      clear hX
      go_simp
      try simp
     clear HC9
     intro HC9
     try simp only [Act.put, zA, zB, zC]
     refine take_H 69 (.pointer (some ⟨b1, o1 + k * 8, none⟩)) (some 189) (GK.grow _) HC9 rfl (by kernel_rfl) rfl (fun _ _ _ h => h) (YieldsIf.toG (Or.inl ⟨by rfl, ?_⟩)) (GK.drop (by simp)) ?_
     ·intro X hX
      clear hX
      go_simp
      try simp
     clear HC9
     intro HC9
     try simp only [Act.put, zA, zB, zC]
     refine take_H 70 (.pointer (some ⟨b1, o1 + k * 8 + 2, none⟩)) (some 190) (GK.grow _) HC9 rfl (by kernel_rfl) rfl (fun _ _ _ h => h) (YieldsIf.toG (Or.inl ⟨by rfl, ?_⟩)) (GK.drop (by simp)) ?_
     ·intro X hX
      clear hX
      go_simp
      try simp
     clear HC9
     intro HC9
     try simp only [Act.put, zA, zB, zC]
     refine take_H 71 (.pointer (some ⟨b1, o1 + k * 8 + 4, none⟩)) (some 191) (GK.grow _) HC9 rfl (by kernel_rfl) rfl (fun _ _ _ h => h) (YieldsIf.toG (Or.inl ⟨by rfl, ?_⟩)) (GK.drop (by simp)) ?_
     ·intro X hX
      clear hX
      go_simp
      try simp
     clear HC9
     intro HC9
     try simp only [Act.put, zA, zB, zC]
     refine take_H 72 (.agg #[.int .i64 s.re, .int .i64 s.im, .int .i64 s.dn]) (some 192) (GK.grow _) HC9 rfl (by kernel_rfl) rfl (fun _ _ _ h => h) (YieldsIf.toG (Or.inl ⟨by rfl, ?_⟩)) (HAL.out 72) ?_
     ·intro X hX
      have hh := hX (72, b1, ob1) (List.Mem.tail _ (List.Mem.tail _ (List.Mem.tail _ (List.Mem.tail _ (List.Mem.tail _ (List.Mem.tail _ (List.Mem.head _))))))) rfl
      have hh0 := (CA.out _ hh 4 _ rfl)
      have hh1 := (CA.out _ hh 5 _ rfl)
      have hh2 := (CA.out _ hh 6 _ rfl)
      have hhl := blk_lt hh
      clear hh
      clear hX
      go_simp
      try simp
     clear HC9
     intro HC9
     try simp only [Act.put, zA, zB, zC]
     refine take_H 73 (.slice (some ⟨b0, o0, none⟩) l.length cp) (some 193) (GK.grow _) HC9 rfl (by kernel_rfl) rfl (fun _ _ _ h => h) (YieldsIf.toG (Or.inl ⟨by rfl, ?_⟩)) (GK.drop (by simp)) ?_
     ·intro X hX
      clear hX
      go_simp
      try simp
     clear HC9
     intro HC9
     try simp only [Act.put, zA, zB, zC]
     refine take_H 74 (.int .i64 (k : Int)) (some 194) (GK.grow _) HC9 rfl (by kernel_rfl) rfl (fun _ _ _ h => h) (YieldsIf.toG (Or.inl ⟨by rfl, ?_⟩)) (GK.drop (by simp)) ?_
     ·intro X hX
      clear hX
      go_simp
      try simp
     clear HC9
     intro HC9
     try simp only [Act.put, zA, zB, zC]
     refine take_H 75 (.pointer (some ⟨b0, o0 + k * 8, none⟩)) (some 195) (GK.grow _) HC9 rfl (by kernel_rfl) rfl (fun _ _ _ h => h) (YieldsIf.toG (Or.inl ⟨by rfl, ?_⟩)) (GK.drop (by simp)) ?_
     ·intro X hX
      clear hX
      go_simp
      try simp
     clear HC9
     intro HC9
     try simp only [Act.put, zA, zB, zC]
     refine take_H 76 (.pointer (some ⟨b0, o0 + k * 8 + 2, none⟩)) (some 196) (GK.grow _) HC9 rfl (by kernel_rfl) rfl (fun _ _ _ h => h) (YieldsIf.toG (Or.inl ⟨by rfl, ?_⟩)) (GK.drop (by simp)) ?_
     ·intro X hX
      clear hX
      go_simp
      try simp
     clear HC9
     intro HC9
     try simp only [Act.put, zA, zB, zC]
     refine take_H 77 (.pointer (some ⟨b0, o0 + k * 8 + 4, none⟩)) (some 197) (GK.grow _) HC9 rfl (by kernel_rfl) rfl (fun _ _ _ h => h) (YieldsIf.toG (Or.inl ⟨by rfl, ?_⟩)) (GK.drop (by simp)) ?_
     ·intro X hX
      clear hX
      go_simp
      try simp
     clear HC9
     intro HC9
     try simp only [Act.put, zA, zB, zC]
     refine take_H 78 (.agg #[.int .i64 s.re, .int .i64 s.im, .int .i64 s.dn]) (some 198) (GK.grow _) HC9 rfl (by kernel_rfl) rfl (fun _ _ _ h => h) (YieldsIf.toG (Or.inl ⟨by rfl, ?_⟩)) (HAL.out 78) ?_
     ·intro X hX
      have hh := hX (78, b0, ob0) (List.Mem.tail _ (List.Mem.tail _ (List.Mem.tail _ (List.Mem.tail _ (List.Mem.tail _ (List.Mem.tail _ (List.Mem.tail _ (List.Mem.head _)))))))) rfl
      have hh0 := (CC.out _ hh 4 _ rfl)
      have hh1 := (CC.out _ hh 5 _ rfl)
      have hh2 := (CC.out _ hh 6 _ rfl)
      have hhl := blk_lt hh
      clear hh
      clear hX
      go_simp
      try simp
     clear HC9
     intro HC9
     try simp only [Act.put, zA, zB, zC]
     refine take_H 79 (.bool false) (some 199) (GK.grow _) HC9 rfl (by kernel_rfl) rfl (fun _ _ _ h => h) (YieldsIf.toG (Or.inl ⟨by rfl, ?_⟩)) (GK.drop (by simp)) ?_
     ·intro X hX
      clear hX
      go_simp
      try simp
     clear HC9
     intro HC9
     try simp only [Act.put, zA, zB, zC]
     refine take_H 80 (.bool false) (some 200) (GK.grow _) HC9 rfl (by kernel_rfl) rfl (fun _ _ _ h => h) (YieldsIf.toG (Or.inl ⟨by rfl, ?_⟩)) (GK.drop (by simp)) ?_
     ·intro X hX
      clear hX
      go_simp
      try simp
     clear HC9
     intro HC9
     try simp only [Act.put, zA, zB, zC]
     clear HAL
     refine done_G (by kernel_rfl) (fun X22 hX => ?_) _
     replace Z1 := zn hX Z1
     replace Z2 := zn hX Z2
     replace Z0 := zn hX Z0
     replace N0 := zh (Bgo N0.out hX)
     replace NN := zh (Bgo NN.out hX)
     clear hX
     go_wp2_with fail
     have hlt9 := HXK.out
     exact ⟨⟨k + 1, by omega, by go_num, N0⟩, by simp [intOf]; omega⟩
   ·as_aux_lemma =>
     have q1 : (s.n != 0) = true := by simpa using h1
     have d1 : decide (s.n < 0) = false := decide_eq_false (by omega)
     have HDRW := zh (Below.drew (Below.refl wr.heap.size wr))
     replace Z1 := zn HDRW Z1
     replace Z2 := zn HDRW Z2
     replace Z0 := zn HDRW Z0
     replace N0 := zh (Bgo N0.out HDRW.out)
     replace NN := zh (Bgo NN.out HDRW.out)
     clear HDRW
     have HAL : Hid (∀ kx9 : Nat, GK [(5, b2, ob2), (11, b1, ob1), (19, b1, ob1), (25, b1, ob1), (29, b0, ob0), (39, b2, ob2), (57, b1, ob1), (62, b0, ob0), (72, b1, ob1), (78, b0, ob0)] kx9 wr.drew) := zh (fun kx9 => fun px9 hp e => by
      simp only [List.mem_cons, List.not_mem_nil, or_false] at hp
      rcases hp with rfl | rfl | rfl | rfl | rfl | rfl | rfl | rfl | rfl | rfl
      ·exact Z2.out
      ·exact Z1.out
      ·exact Z1.out
      ·exact Z1.out
      ·exact Z0.out
      ·exact Z2.out
      ·exact Z1.out
      ·exact Z0.out
      ·exact Z1.out
      ·exact Z0.out
     )
     refine region_H (S := GK [(5, b2, ob2), (11, b1, ob1), (19, b1, ob1), (25, b1, ob1), (29, b0, ob0), (39, b2, ob2), (57, b1, ob1), (62, b0, ob0), (72, b1, ob1), (78, b0, ob0)]) (by kernel_rfl) (by kernel_rfl) (by kernel_rfl) ?_
     intro HC9
     refine take_H 0 (.slice (some ⟨b2, o2, none⟩) X.length c2) (some 120) (GK.grow _) HC9 rfl (by kernel_rfl) rfl (fun _ _ _ h => h) (YieldsIf.toG (Or.inl ⟨by rfl, ?_⟩)) (GK.drop (by simp)) ?_
     ·intro X hX
      clear hX
      go_simp
      try simp
     clear HC9
     intro HC9
     try simp only [Act.put, zA, zB, zC]
     refine take_H 1 (.int .i64 (k : Int)) (some 121) (GK.grow _) HC9 rfl (by kernel_rfl) rfl (fun _ _ _ h => h) (YieldsIf.toG (Or.inl ⟨by rfl, ?_⟩)) (GK.drop (by simp)) ?_
     ·intro X hX
      clear hX
      go_simp
      try simp
     clear HC9
     intro HC9
     try simp only [Act.put, zA, zB, zC]
     refine take_H 2 (.pointer (some ⟨b2, o2 + k * 8, none⟩)) (some 122) (GK.grow _) HC9 rfl (by kernel_rfl) rfl (fun _ _ _ h => h) (YieldsIf.toG (Or.inl ⟨by rfl, ?_⟩)) (GK.drop (by simp)) ?_
     ·intro X hX
      clear hX
      go_simp
      try simp
     clear HC9
     intro HC9
     try simp only [Act.put, zA, zB, zC]
     refine take_H 3 (.pointer (some ⟨b2, o2 + k * 8 + 2, none⟩)) (some 123) (GK.grow _) HC9 rfl (by kernel_rfl) rfl (fun _ _ _ h => h) (YieldsIf.toG (Or.inl ⟨by rfl, ?_⟩)) (GK.drop (by simp)) ?_
     ·intro X hX
      clear hX
      go_simp
      try simp
     clear HC9
     intro HC9
     try simp only [Act.put, zA, zB, zC]
     refine take_H 4 (.pointer (some ⟨b2, o2 + k * 8 + 7, none⟩)) (some 124) (GK.grow _) HC9 rfl (by kernel_rfl) rfl (fun _ _ _ h => h) (YieldsIf.toG (Or.inl ⟨by rfl, ?_⟩)) (GK.drop (by simp)) ?_
     ·intro X hX
      clear hX
      go_simp
      try simp
     clear HC9
     intro HC9
     try simp only [Act.put, zA, zB, zC]
     refine take_H 5 (.int .i64 0) (some 125) (GK.grow _) HC9 rfl (by kernel_rfl) rfl (fun _ _ _ h => h) (YieldsIf.toG (Or.inl ⟨by rfl, ?_⟩)) (HAL.out 5) ?_
     ·intro X hX
      have hh := hX (5, b2, ob2) (List.Mem.head _) rfl
      have hh0 := (CB.out _ hh 7 _ rfl)
      have hhl := blk_lt hh
      clear hh
      clear hX
      go_simp
      try simp
     clear HC9
     intro HC9
     try simp only [Act.put, zA, zB, zC]
     refine take_H 6 (.slice (some ⟨b1, o1, none⟩) X.length c1) (some 126) (GK.grow _) HC9 rfl (by kernel_rfl) rfl (fun _ _ _ h => h) (YieldsIf.toG (Or.inl ⟨by rfl, ?_⟩)) (GK.drop (by simp)) ?_
     ·intro X hX
      clear hX
      go_simp
      try simp
     clear HC9
     intro HC9
     try simp only [Act.put, zA, zB, zC]
     refine take_H 7 (.int .i64 (k : Int)) (some 127) (GK.grow _) HC9 rfl (by kernel_rfl) rfl (fun _ _ _ h => h) (YieldsIf.toG (Or.inl ⟨by rfl, ?_⟩)) (GK.drop (by simp)) ?_
     ·intro X hX
      clear hX
      go_simp
      try simp
     clear HC9
     intro HC9
     try simp only [Act.put, zA, zB, zC]
     refine take_H 8 (.pointer (some ⟨b1, o1 + k * 8, none⟩)) (some 128) (GK.grow _) HC9 rfl (by kernel_rfl) rfl (fun _ _ _ h => h) (YieldsIf.toG (Or.inl ⟨by rfl, ?_⟩)) (GK.drop (by simp)) ?_
     ·intro X hX
      clear hX
      go_simp
      try simp
     clear HC9
     intro HC9
     try simp only [Act.put, zA, zB, zC]
     refine take_H 9 (.pointer (some ⟨b1, o1 + k * 8 + 2, none⟩)) (some 129) (GK.grow _) HC9 rfl (by kernel_rfl) rfl (fun _ _ _ h => h) (YieldsIf.toG (Or.inl ⟨by rfl, ?_⟩)) (GK.drop (by simp)) ?_
     ·intro X hX
      clear hX
      go_simp
      try simp
     clear HC9
     intro HC9
     try simp only [Act.put, zA, zB, zC]
     refine take_H 10 (.pointer (some ⟨b1, o1 + k * 8 + 7, none⟩)) (some 130) (GK.grow _) HC9 rfl (by kernel_rfl) rfl (fun _ _ _ h => h) (YieldsIf.toG (Or.inl ⟨by rfl, ?_⟩)) (GK.drop (by simp)) ?_
     ·intro X hX
      clear hX
      go_simp
      try simp
     clear HC9
     intro HC9
     try simp only [Act.put, zA, zB, zC]
     refine take_H 11 (.int .i64 s.n) (some 131) (GK.grow _) HC9 rfl (by kernel_rfl) rfl (fun _ _ _ h => h) (YieldsIf.toG (Or.inl ⟨by rfl, ?_⟩)) (HAL.out 11) ?_
     ·intro X hX
      have hh := hX (11, b1, ob1) (List.Mem.tail _ (List.Mem.head _)) rfl
      have hh0 := (CA.out _ hh 7 _ rfl)
      have hhl := blk_lt hh
      clear hh
      clear hX
      go_simp
      try simp
     clear HC9
     intro HC9
     try simp only [Act.put, zA, zB, zC]
     refine take_H 12 (.bool false) (some 132) (GK.grow _) HC9 rfl (by kernel_rfl) rfl (fun _ _ _ h => h) (YieldsIf.toG (Or.inl ⟨by rfl, ?_⟩)) (GK.drop (by simp)) ?_
     ·intro X hX
      clear hX
      go_simp
      try simp
     clear HC9
     intro HC9
     try simp only [Act.put, zA, zB, zC]
     refine take_H 13 (.bool false) (some 133) (GK.grow _) HC9 rfl (by kernel_rfl) rfl (fun _ _ _ h => h) (YieldsIf.toG (Or.inl ⟨by rfl, ?_⟩)) (GK.drop (by simp)) ?_
     ·intro X hX
      clear hX
      go_simp
      try simp
     clear HC9
     intro HC9
     try simp only [Act.put, zA, zB, zC]
     refine take_H 14 (.slice (some ⟨b1, o1, none⟩) X.length c1) (some 134) (GK.grow _) HC9 rfl (by kernel_rfl) rfl (fun _ _ _ h => h) (YieldsIf.toG (Or.inl ⟨by rfl, ?_⟩)) (GK.drop (by simp)) ?_
     ·intro X hX
      clear hX
      go_simp
      try simp
     clear HC9
     intro HC9
     try simp only [Act.put, zA, zB, zC]
     refine take_H 15 (.int .i64 (k : Int)) (some 135) (GK.grow _) HC9 rfl (by kernel_rfl) rfl (fun _ _ _ h => h) (YieldsIf.toG (Or.inl ⟨by rfl, ?_⟩)) (GK.drop (by simp)) ?_
     ·intro X hX
      clear hX
      go_simp
      try simp
     clear HC9
     intro HC9
     try simp only [Act.put, zA, zB, zC]
     refine take_H 16 (.pointer (some ⟨b1, o1 + k * 8, none⟩)) (some 136) (GK.grow _) HC9 rfl (by kernel_rfl) rfl (fun _ _ _ h => h) (YieldsIf.toG (Or.inl ⟨by rfl, ?_⟩)) (GK.drop (by simp)) ?_
     ·intro X hX
      clear hX
      go_simp
      try simp
     clear HC9
     intro HC9
     try simp only [Act.put, zA, zB, zC]
     refine take_H 17 (.pointer (some ⟨b1, o1 + k * 8 + 2, none⟩)) (some 137) (GK.grow _) HC9 rfl (by kernel_rfl) rfl (fun _ _ _ h => h) (YieldsIf.toG (Or.inl ⟨by rfl, ?_⟩)) (GK.drop (by simp)) ?_
     ·intro X hX
      clear hX
      go_simp
      try simp
     clear HC9
     intro HC9
     try simp only [Act.put, zA, zB, zC]
     refine take_H 18 (.pointer (some ⟨b1, o1 + k * 8 + 7, none⟩)) (some 138) (GK.grow _) HC9 rfl (by kernel_rfl) rfl (fun _ _ _ h => h) (YieldsIf.toG (Or.inl ⟨by rfl, ?_⟩)) (GK.drop (by simp)) ?_
     ·intro X hX
      clear hX
      go_simp
      try simp
     clear HC9
     intro HC9
     try simp only [Act.put, zA, zB, zC]
     refine take_H 19 (.int .i64 s.n) (some 139) (GK.grow _) HC9 rfl (by kernel_rfl) rfl (fun _ _ _ h => h) (YieldsIf.toG (Or.inl ⟨by rfl, ?_⟩)) (HAL.out 19) ?_
     ·intro X hX
      have hh := hX (19, b1, ob1) (List.Mem.tail _ (List.Mem.tail _ (List.Mem.head _))) rfl
      have hh0 := (CA.out _ hh 7 _ rfl)
      have hhl := blk_lt hh
      clear hh
      clear hX
      go_simp
      try simp
     clear HC9
     intro HC9
     try simp only [Act.put, zA, zB, zC]
     refine take_H 20 (.bool true) (some 140) (GK.grow _) HC9 rfl (by kernel_rfl) rfl (fun _ _ _ h => h) (YieldsIf.toG (Or.inl ⟨by rfl, ?_⟩)) (GK.drop (by simp)) ?_
     ·intro X hX
      clear hX
      go_simp
      try simp
     clear HC9
     intro HC9
     try simp only [Act.put, zA, zB, zC]
     refine take_H 21 (.bool true) (some 141) (GK.grow _) HC9 rfl (by kernel_rfl) rfl (fun _ _ _ h => h) (YieldsIf.toG (Or.inl ⟨by rfl, ?_⟩)) (GK.drop (by simp)) ?_
     ·intro X hX
      clear hX
      go_simp
      try simp
     clear HC9
     intro HC9
     try simp only [Act.put, zA, zB, zC]
     refine take_H 22 (.slice (some ⟨b1, o1, none⟩) X.length c1) (some 142) (GK.grow _) HC9 rfl (by kernel_rfl) rfl (fun _ _ _ h => h) (YieldsIf.toG (Or.inl ⟨by rfl, ?_⟩)) (GK.drop (by simp)) ?_
     ·intro X hX
      clear hX
      go_simp
      try simp
     clear HC9
     intro HC9
     try simp only [Act.put, zA, zB, zC]
     refine take_H 23 (.int .i64 (k : Int)) (some 143) (GK.grow _) HC9 rfl (by kernel_rfl) rfl (fun _ _ _ h => h) (YieldsIf.toG (Or.inl ⟨by rfl, ?_⟩)) (GK.drop (by simp)) ?_
     ·intro X hX
      clear hX
      go_simp
      try simp
     clear HC9
     intro HC9
     try simp only [Act.put, zA, zB, zC]
     refine take_H 24 (.pointer (some ⟨b1, o1 + k * 8, none⟩)) (some 144) (GK.grow _) HC9 rfl (by kernel_rfl) rfl (fun _ _ _ h => h) (YieldsIf.toG (Or.inl ⟨by rfl, ?_⟩)) (GK.drop (by simp)) ?_
     ·intro X hX
      clear hX
      go_simp
      try simp
     clear HC9
     intro HC9
     try simp only [Act.put, zA, zB, zC]
     refine take_H 25 (.agg #[.int .i64 s.t, .int .i64 s.c, .int .i64 s.i, .int .i64 s.j, .int .i64 s.re, .int .i64 s.im, .int .i64 s.dn, .int .i64 s.n]) (some 145) (GK.grow _) HC9 rfl (by kernel_rfl) rfl (fun _ _ _ h => h) (YieldsIf.toG (Or.inl ⟨by rfl, ?_⟩)) (HAL.out 25) ?_
     ·intro X hX
      have hh := hX (25, b1, ob1) (List.Mem.tail _ (List.Mem.tail _ (List.Mem.tail _ (List.Mem.head _)))) rfl
      have hh0 := (CA.out _ hh 0 _ rfl)
      simp only [Nat.add_zero] at hh0
      have hh1 := (CA.out _ hh 1 _ rfl)
      have hh2 := (CA.out _ hh 2 _ rfl)
      have hh3 := (CA.out _ hh 3 _ rfl)
      have hh4 := (CA.out _ hh 4 _ rfl)
      have hh5 := (CA.out _ hh 5 _ rfl)
      have hh6 := (CA.out _ hh 6 _ rfl)
      have hh7 := (CA.out _ hh 7 _ rfl)
      have hhl := blk_lt hh
      clear hh
      clear hX
      go_simp
      try simp
     clear HC9
     intro HC9
     try simp only [Act.put, zA, zB, zC]
     refine take_H 26 (.slice (some ⟨b0, o0, none⟩) l.length cp) (some 146) (GK.grow _) HC9 rfl (by kernel_rfl) rfl (fun _ _ _ h => h) (YieldsIf.toG (Or.inl ⟨by rfl, ?_⟩)) (GK.drop (by simp)) ?_
     ·intro X hX
      clear hX
      go_simp
      try simp
     clear HC9
     intro HC9
     try simp only [Act.put, zA, zB, zC]
     refine take_H 27 (.int .i64 (k : Int)) (some 147) (GK.grow _) HC9 rfl (by kernel_rfl) rfl (fun _ _ _ h => h) (YieldsIf.toG (Or.inl ⟨by rfl, ?_⟩)) (GK.drop (by simp)) ?_
     ·intro X hX
      clear hX
      go_simp
      try simp
     clear HC9
     intro HC9
     try simp only [Act.put, zA, zB, zC]
     refine take_H 28 (.pointer (some ⟨b0, o0 + k * 8, none⟩)) (some 148) (GK.grow _) HC9 rfl (by kernel_rfl) rfl (fun _ _ _ h => h) (YieldsIf.toG (Or.inl ⟨by rfl, ?_⟩)) (GK.drop (by simp)) ?_
     ·intro X hX
      clear hX
      go_simp
      try simp
     clear HC9
     intro HC9
     try simp only [Act.put, zA, zB, zC]
     refine take_H 29 (.agg #[.int .i64 s.t, .int .i64 s.c, .int .i64 s.i, .int .i64 s.j, .int .i64 s.re, .int .i64 s.im, .int .i64 s.dn, .int .i64 s.n]) (some 149) (GK.grow _) HC9 rfl (by kernel_rfl) rfl (fun _ _ _ h => h) (YieldsIf.toG (Or.inl ⟨by rfl, ?_⟩)) (HAL.out 29) ?_
     ·intro X hX
      have hh := hX (29, b0, ob0) (List.Mem.tail _ (List.Mem.tail _ (List.Mem.tail _ (List.Mem.tail _ (List.Mem.head _))))) rfl
      have hh0 := (CC.out _ hh 0 _ rfl)
      simp only [Nat.add_zero] at hh0
      have hh1 := (CC.out _ hh 1 _ rfl)
      have hh2 := (CC.out _ hh 2 _ rfl)
      have hh3 := (CC.out _ hh 3 _ rfl)
      have hh4 := (CC.out _ hh 4 _ rfl)
      have hh5 := (CC.out _ hh 5 _ rfl)
      have hh6 := (CC.out _ hh 6 _ rfl)
      have hh7 := (CC.out _ hh 7 _ rfl)
      have hhl := blk_lt hh
      clear hh
      clear hX
      go_simp
      try simp
     clear HC9
     intro HC9
     try simp only [Act.put, zA, zB, zC]
     refine take_H 30 (.bool false) (some 150) (GK.grow _) HC9 rfl (by kernel_rfl) rfl (fun _ _ _ h => h) (YieldsIf.toG (Or.inl ⟨by rfl, ?_⟩)) (GK.drop (by simp)) ?_
     ·intro X hX
      clear hX
      go_simp
      try simp
     clear HC9
     intro HC9
     try simp only [Act.put, zA, zB, zC]
     refine take_H 31 (.bool false) (some 151) (GK.grow _) HC9 rfl (by kernel_rfl) rfl (fun _ _ _ h => h) (YieldsIf.toG (Or.inl ⟨by rfl, ?_⟩)) (GK.drop (by simp)) ?_
     ·intro X hX
      clear hX
      go_simp
      try simp
     clear HC9
     intro HC9
     try simp only [Act.put, zA, zB, zC]
     refine take_H 32 (.bool false) (some 152) (GK.grow _) HC9 rfl (by kernel_rfl) rfl (fun _ _ _ h => h) (YieldsIf.toG (Or.inl ⟨by rfl, ?_⟩)) (GK.drop (by simp)) ?_
     ·intro X hX
      clear hX
      go_simp
      try simp
     clear HC9
     intro HC9
     try simp only [Act.put, zA, zB, zC]
     refine take_H 33 (.bool false) (some 153) (GK.grow _) HC9 rfl (by kernel_rfl) rfl (fun _ _ _ h => h) (YieldsIf.toG (Or.inl ⟨by rfl, ?_⟩)) (GK.drop (by simp)) ?_
     ·intro X hX
      clear hX
      go_simp
      try simp
     clear HC9
     intro HC9
     try simp only [Act.put, zA, zB, zC]
     refine take_H 34 (.slice (some ⟨b2, o2, none⟩) X.length c2) (some 154) (GK.grow _) HC9 rfl (by kernel_rfl) rfl (fun _ _ _ h => h) (YieldsIf.toG (Or.inl ⟨by rfl, ?_⟩)) (GK.drop (by simp)) ?_
     ·intro X hX
      clear hX
      go_simp
      try simp
     clear HC9
     intro HC9
     try simp only [Act.put, zA, zB, zC]
     refine take_H 35 (.int .i64 (k : Int)) (some 155) (GK.grow _) HC9 rfl (by kernel_rfl) rfl (fun _ _ _ h => h) (YieldsIf.toG (Or.inl ⟨by rfl, ?_⟩)) (GK.drop (by simp)) ?_
     ·intro X hX
      clear hX
      go_simp
      try simp
     clear HC9
     intro HC9
     try simp only [Act.put, zA, zB, zC]
     refine take_H 36 (.pointer (some ⟨b2, o2 + k * 8, none⟩)) (some 156) (GK.grow _) HC9 rfl (by kernel_rfl) rfl (fun _ _ _ h => h) (YieldsIf.toG (Or.inl ⟨by rfl, ?_⟩)) (GK.drop (by simp)) ?_
     ·intro X hX
      clear hX
      go_simp
      try simp
     clear HC9
     intro HC9
     try simp only [Act.put, zA, zB, zC]
     refine take_H 37 (.pointer (some ⟨b2, o2 + k * 8 + 2, none⟩)) (some 157) (GK.grow _) HC9 rfl (by kernel_rfl) rfl (fun _ _ _ h => h) (YieldsIf.toG (Or.inl ⟨by rfl, ?_⟩)) (GK.drop (by simp)) ?_
     ·intro X hX
      clear hX
      go_simp
      try simp
     clear HC9
     intro HC9
     try simp only [Act.put, zA, zB, zC]
     refine take_H 38 (.pointer (some ⟨b2, o2 + k * 8 + 7, none⟩)) (some 158) (GK.grow _) HC9 rfl (by kernel_rfl) rfl (fun _ _ _ h => h) (YieldsIf.toG (Or.inl ⟨by rfl, ?_⟩)) (GK.drop (by simp)) ?_
     ·intro X hX
      clear hX
      go_simp
      try simp
     clear HC9
     intro HC9
     try simp only [Act.put, zA, zB, zC]
     refine take_H 39 (.int .i64 0) (some 159) (GK.grow _) HC9 rfl (by kernel_rfl) rfl (fun _ _ _ h => h) (YieldsIf.toG (Or.inl ⟨by rfl, ?_⟩)) (HAL.out 39) ?_
     ·intro X hX
      have hh := hX (39, b2, ob2) (List.Mem.tail _ (List.Mem.tail _ (List.Mem.tail _ (List.Mem.tail _ (List.Mem.tail _ (List.Mem.head _)))))) rfl
      have hh0 := (CB.out _ hh 7 _ rfl)
      have hhl := blk_lt hh
      clear hh
      clear hX
      go_simp
      try simp
     clear HC9
     intro HC9
     try simp only [Act.put, zA, zB, zC]
     refine take_H 40 (.bool false) (some 160) (GK.grow _) HC9 rfl (by kernel_rfl) rfl (fun _ _ _ h => h) (YieldsIf.toG (Or.inl ⟨by rfl, ?_⟩)) (GK.drop (by simp)) ?_
     ·intro X hX
      clear hX
      go_simp
      try simp
     clear HC9
     intro HC9
     try simp only [Act.put, zA, zB, zC]
     refine take_H 41 (.bool false) (some 161) (GK.grow _) HC9 rfl (by kernel_rfl) rfl (fun _ _ _ h => h) (YieldsIf.toG (Or.inl ⟨by rfl, ?_⟩)) (GK.drop (by simp)) ?_
     ·intro X hX
      clear hX
      go_simp
      try simp
     clear HC9
     intro HC9
     try simp only [Act.put, zA, zB, zC]
     refine take_H 42 (undef) (some 162) (GK.grow _) HC9 rfl (by kernel_rfl) rfl (fun _ _ _ h => h) (YieldsIf.toG (Or.inr ⟨by rfl, rfl⟩)) (GK.drop (by simp)) ?_
     clear HC9
     intro HC9
     try simp only [Act.put, zA, zB, zC]
     refine take_H 43 (undef) (some 163) (GK.grow _) HC9 rfl (by kernel_rfl) rfl (fun _ _ _ h => h) (YieldsIf.toG (Or.inr ⟨by rfl, rfl⟩)) (GK.drop (by simp)) ?_
     clear HC9
     intro HC9
     try simp only [Act.put, zA, zB, zC]
     refine take_H 44 (undef) (some 164) (GK.grow _) HC9 rfl (by kernel_rfl) rfl (fun _ _ _ h => h) (YieldsIf.toG (Or.inr ⟨by rfl, rfl⟩)) (GK.drop (by simp)) ?_
     clear HC9
     intro HC9
     try simp only [Act.put, zA, zB, zC]
     refine take_H 45 (undef) (some 165) (GK.grow _) HC9 rfl (by kernel_rfl) rfl (fun _ _ _ h => h) (YieldsIf.toG (Or.inr ⟨by rfl, rfl⟩)) (GK.drop (by simp)) ?_
     clear HC9
     intro HC9
     try simp only [Act.put, zA, zB, zC]
     refine take_H 46 (undef) (some 166) (GK.grow _) HC9 rfl (by kernel_rfl) rfl (fun _ _ _ h => h) (YieldsIf.toG (Or.inr ⟨by rfl, rfl⟩)) (GK.drop (by simp)) ?_
     clear HC9
     intro HC9
     try simp only [Act.put, zA, zB, zC]
     refine take_H 47 (undef) (some 167) (GK.grow _) HC9 rfl (by kernel_rfl) rfl (fun _ _ _ h => h) (YieldsIf.toG (Or.inr ⟨by rfl, rfl⟩)) (GK.drop (by simp)) ?_
     clear HC9
     intro HC9
     try simp only [Act.put, zA, zB, zC]
     refine take_H 48 (undef) (some 168) (GK.grow _) HC9 rfl (by kernel_rfl) rfl (fun _ _ _ h => h) (YieldsIf.toG (Or.inr ⟨by rfl, rfl⟩)) (GK.drop (by simp)) ?_
     clear HC9
     intro HC9
     try simp only [Act.put, zA, zB, zC]
     refine take_H 49 (undef) (some 169) (GK.grow _) HC9 rfl (by kernel_rfl) rfl (fun _ _ _ h => h) (YieldsIf.toG (Or.inr ⟨by rfl, rfl⟩)) (GK.drop (by simp)) ?_
     clear HC9
     intro HC9
     try simp only [Act.put, zA, zB, zC]
     refine take_H 50 (undef) (some 170) (GK.grow _) HC9 rfl (by kernel_rfl) rfl (fun _ _ _ h => h) (YieldsIf.toG (Or.inr ⟨by rfl, rfl⟩)) (GK.drop (by simp)) ?_
     clear HC9
     intro HC9
     try simp only [Act.put, zA, zB, zC]
     refine take_H 51 (.bool false) (some 171) (GK.grow _) HC9 rfl (by kernel_rfl) rfl (fun _ _ _ h => h) (YieldsIf.toG (Or.inl ⟨by rfl, ?_⟩)) (GK.drop (by simp)) ?_
     ·intro X hX
      clear hX
      go_simp
      try simp
     clear HC9
     intro HC9
     try simp only [Act.put, zA, zB, zC]
     refine take_H 52 (.bool false) (some 172) (GK.grow _) HC9 rfl (by kernel_rfl) rfl (fun _ _ _ h => h) (YieldsIf.toG (Or.inl ⟨by rfl, ?_⟩)) (GK.drop (by simp)) ?_
     ·intro X hX
      clear hX
      go_simp
      try simp
     clear HC9
     intro HC9
     try simp only [Act.put, zA, zB, zC]
     refine take_H 53 (.bool false) (some 173) (GK.grow _) HC9 rfl (by kernel_rfl) rfl (fun _ _ _ h => h) (YieldsIf.toG (Or.inl ⟨by rfl, ?_⟩)) (GK.drop (by simp)) ?_
     ·intro X hX
      clear hX
      go_simp
      try simp
     clear HC9
     intro HC9
     try simp only [Act.put, zA, zB, zC]
     refine take_H 54 (.slice (some ⟨b1, o1, none⟩) X.length c1) (some 174) (GK.grow _) HC9 rfl (by kernel_rfl) rfl (fun _ _ _ h => h) (YieldsIf.toG (Or.inl ⟨by rfl, ?_⟩)) (GK.drop (by simp)) ?_
     ·intro X hX
      clear hX
      go_simp
      try simp
     clear HC9
     intro HC9
     try simp only [Act.put, zA, zB, zC]
     refine take_H 55 (.int .i64 (k : Int)) (some 175) (GK.grow _) HC9 rfl (by kernel_rfl) rfl (fun _ _ _ h => h) (YieldsIf.toG (Or.inl ⟨by rfl, ?_⟩)) (GK.drop (by simp)) ?_
     ·intro X hX
      clear hX
      go_simp
      try simp
     clear HC9
     intro HC9
     try simp only [Act.put, zA, zB, zC]
     refine take_H 56 (.pointer (some ⟨b1, o1 + k * 8, none⟩)) (some 176) (GK.grow _) HC9 rfl (by kernel_rfl) rfl (fun _ _ _ h => h) (YieldsIf.toG (Or.inl ⟨by rfl, ?_⟩)) (GK.drop (by simp)) ?_
     ·intro X hX
      clear hX
      go_simp
      try simp
     clear HC9
     intro HC9
     try simp only [Act.put, zA, zB, zC]
     refine take_H 57 (.agg #[.int .i64 s.t, .int .i64 s.c, .int .i64 s.i, .int .i64 s.j, .int .i64 s.re, .int .i64 s.im, .int .i64 s.dn, .int .i64 s.n]) (some 177) (GK.grow _) HC9 rfl (by kernel_rfl) rfl (fun _ _ _ h => h) (YieldsIf.toG (Or.inl ⟨by rfl, ?_⟩)) (HAL.out 57) ?_
     ·intro X hX
      have hh := hX (57, b1, ob1) (List.Mem.tail _ (List.Mem.tail _ (List.Mem.tail _ (List.Mem.tail _ (List.Mem.tail _ (List.Mem.tail _ (List.Mem.head _))))))) rfl
      have hh0 := (CA.out _ hh 0 _ rfl)
      simp only [Nat.add_zero] at hh0
      have hh1 := (CA.out _ hh 1 _ rfl)
      have hh2 := (CA.out _ hh 2 _ rfl)
      have hh3 := (CA.out _ hh 3 _ rfl)
      have hh4 := (CA.out _ hh 4 _ rfl)
      have hh5 := (CA.out _ hh 5 _ rfl)
      have hh6 := (CA.out _ hh 6 _ rfl)
      have hh7 := (CA.out _ hh 7 _ rfl)
      have hhl := blk_lt hh
      clear hh
      clear hX
      go_simp
      try simp
     clear HC9
     intro HC9
     try simp only [Act.put, zA, zB, zC]
     have CFn : ∀ (args : Array Value) (W : World), Sem.run Tryz.prog (callFunc 19 args) W = .ok (.enter 19 args) W := fun _ _ => by kernel_rfl
     refine take_H 58 (.int .i64 kv) (some 178) (GK.grow _) HC9 rfl (by kernel_rfl) rfl (fun _ _ _ h => h) (yieldsG_call 19 #[.agg #[.int .i64 s.t, .int .i64 s.c, .int .i64 s.i, .int .i64 s.j, .int .i64 s.re, .int .i64 s.im, .int .i64 s.dn, .int .i64 s.n]] (by rfl) ?_ (fun X hS => KT.out X)) (GK.drop (by simp)) ?_
     ·intro X hX
      clear hX
      go_simp
     clear CFn
     clear HC9
     intro HC9
     try simp only [Act.put, zA, zB, zC]
     refine take_H 59 (.slice (some ⟨b0, o0, none⟩) l.length cp) (some 179) (GK.grow _) HC9 rfl (by kernel_rfl) rfl (fun _ _ _ h => h) (YieldsIf.toG (Or.inl ⟨by rfl, ?_⟩)) (GK.drop (by simp)) ?_
     ·intro X hX
      clear hX
      go_simp
      try simp
     clear HC9
     intro HC9
     try simp only [Act.put, zA, zB, zC]
     refine take_H 60 (.int .i64 (k : Int)) (some 180) (GK.grow _) HC9 rfl (by kernel_rfl) rfl (fun _ _ _ h => h) (YieldsIf.toG (Or.inl ⟨by rfl, ?_⟩)) (GK.drop (by simp)) ?_
     ·intro X hX
      clear hX
      go_simp
      try simp
     clear HC9
     intro HC9
     try simp only [Act.put, zA, zB, zC]
     refine take_H 61 (.pointer (some ⟨b0, o0 + k * 8, none⟩)) (some 181) (GK.grow _) HC9 rfl (by kernel_rfl) rfl (fun _ _ _ h => h) (YieldsIf.toG (Or.inl ⟨by rfl, ?_⟩)) (GK.drop (by simp)) ?_
     ·intro X hX
      clear hX
      go_simp
      try simp
     clear HC9
     intro HC9
     try simp only [Act.put, zA, zB, zC]
     refine take_H 62 (.agg #[.int .i64 s.t, .int .i64 s.c, .int .i64 s.i, .int .i64 s.j, .int .i64 s.re, .int .i64 s.im, .int .i64 s.dn, .int .i64 s.n]) (some 182) (GK.grow _) HC9 rfl (by kernel_rfl) rfl (fun _ _ _ h => h) (YieldsIf.toG (Or.inl ⟨by rfl, ?_⟩)) (HAL.out 62) ?_
     ·intro X hX
      have hh := hX (62, b0, ob0) (List.Mem.tail _ (List.Mem.tail _ (List.Mem.tail _ (List.Mem.tail _ (List.Mem.tail _ (List.Mem.tail _ (List.Mem.tail _ (List.Mem.head _)))))))) rfl
      have hh0 := (CC.out _ hh 0 _ rfl)
      simp only [Nat.add_zero] at hh0
      have hh1 := (CC.out _ hh 1 _ rfl)
      have hh2 := (CC.out _ hh 2 _ rfl)
      have hh3 := (CC.out _ hh 3 _ rfl)
      have hh4 := (CC.out _ hh 4 _ rfl)
      have hh5 := (CC.out _ hh 5 _ rfl)
      have hh6 := (CC.out _ hh 6 _ rfl)
      have hh7 := (CC.out _ hh 7 _ rfl)
      have hhl := blk_lt hh
      clear hh
      clear hX
      go_simp
      try simp
     clear HC9
     intro HC9
     try simp only [Act.put, zA, zB, zC]
     have CFn : ∀ (args : Array Value) (W : World), Sem.run Tryz.prog (callFunc 19 args) W = .ok (.enter 19 args) W := fun _ _ => by kernel_rfl
     refine take_H 63 (.int .i64 kv) (some 183) (GK.grow _) HC9 rfl (by kernel_rfl) rfl (fun _ _ _ h => h) (yieldsG_call 19 #[.agg #[.int .i64 s.t, .int .i64 s.c, .int .i64 s.i, .int .i64 s.j, .int .i64 s.re, .int .i64 s.im, .int .i64 s.dn, .int .i64 s.n]] (by rfl) ?_ (fun X hS => KT.out X)) (GK.drop (by simp)) ?_
     ·intro X hX
      clear hX
      go_simp
     clear CFn
     clear HC9
     intro HC9
     try simp only [Act.put, zA, zB, zC]
     refine take_H 64 (.bool false) (some 184) (GK.grow _) HC9 rfl (by kernel_rfl) rfl (fun _ _ _ h => h) (YieldsIf.toG (Or.inl ⟨by rfl, ?_⟩)) (GK.drop (by simp)) ?_
     ·intro X hX
      clear hX
      go_simp
      try simp
     clear HC9
     intro HC9
     try simp only [Act.put, zA, zB, zC]
     refine take_H 65 (.bool false) (some 185) (GK.grow _) HC9 rfl (by kernel_rfl) rfl (fun _ _ _ h => h) (YieldsIf.toG (Or.inl ⟨by rfl, ?_⟩)) (GK.drop (by simp)) ?_
     ·intro X hX
      clear hX
      go_simp
      try simp
     clear HC9
     intro HC9
     try simp only [Act.put, zA, zB, zC]
     refine take_H 66 (.bool false) (some 186) (GK.grow _) HC9 rfl (by kernel_rfl) rfl (fun _ _ _ h => h) (YieldsIf.toG (Or.inl ⟨by rfl, ?_⟩)) (GK.drop (by simp)) ?_
     ·intro X hX
      clear hX
      go_simp
      try simp
     clear HC9
     intro HC9
     try simp only [Act.put, zA, zB, zC]
     refine take_H 67 (.slice (some ⟨b1, o1, none⟩) X.length c1) (some 187) (GK.grow _) HC9 rfl (by kernel_rfl) rfl (fun _ _ _ h => h) (YieldsIf.toG (Or.inl ⟨by rfl, ?_⟩)) (GK.drop (by simp)) ?_
     ·intro X hX
      clear hX
      go_simp
      try simp
     clear HC9
     intro HC9
     try simp only [Act.put, zA, zB, zC]
     refine take_H 68 (.int .i64 (k : Int)) (some 188) (GK.grow _) HC9 rfl (by kernel_rfl) rfl (fun _ _ _ h => h) (YieldsIf.toG (Or.inl ⟨by rfl, ?_⟩)) (GK.drop (by simp)) ?_
     ·intro X hX
      clear hX
      go_simp
      try simp
     clear HC9
     intro HC9
     try simp only [Act.put, zA, zB, zC]
     refine take_H 69 (.pointer (some ⟨b1, o1 + k * 8, none⟩)) (some 189) (GK.grow _) HC9 rfl (by kernel_rfl) rfl (fun _ _ _ h => h) (YieldsIf.toG (Or.inl ⟨by rfl, ?_⟩)) (GK.drop (by simp)) ?_
     ·intro X hX
      clear hX
      go_simp
      try simp
     clear HC9
     intro HC9
     try simp only [Act.put, zA, zB, zC]
     refine take_H 70 (.pointer (some ⟨b1, o1 + k * 8 + 2, none⟩)) (some 190) (GK.grow _) HC9 rfl (by kernel_rfl) rfl (fun _ _ _ h => h) (YieldsIf.toG (Or.inl ⟨by rfl, ?_⟩)) (GK.drop (by simp)) ?_
     ·intro X hX
      clear hX
      go_simp
      try simp
     clear HC9
     intro HC9
     try simp only [Act.put, zA, zB, zC]
     refine take_H 71 (.pointer (some ⟨b1, o1 + k * 8 + 4, none⟩)) (some 191) (GK.grow _) HC9 rfl (by kernel_rfl) rfl (fun _ _ _ h => h) (YieldsIf.toG (Or.inl ⟨by rfl, ?_⟩)) (GK.drop (by simp)) ?_
     ·intro X hX
      clear hX
      go_simp
      try simp
     clear HC9
     intro HC9
     try simp only [Act.put, zA, zB, zC]
     refine take_H 72 (.agg #[.int .i64 s.re, .int .i64 s.im, .int .i64 s.dn]) (some 192) (GK.grow _) HC9 rfl (by kernel_rfl) rfl (fun _ _ _ h => h) (YieldsIf.toG (Or.inl ⟨by rfl, ?_⟩)) (HAL.out 72) ?_
     ·intro X hX
      have hh := hX (72, b1, ob1) (List.Mem.tail _ (List.Mem.tail _ (List.Mem.tail _ (List.Mem.tail _ (List.Mem.tail _ (List.Mem.tail _ (List.Mem.tail _ (List.Mem.tail _ (List.Mem.head _))))))))) rfl
      have hh0 := (CA.out _ hh 4 _ rfl)
      have hh1 := (CA.out _ hh 5 _ rfl)
      have hh2 := (CA.out _ hh 6 _ rfl)
      have hhl := blk_lt hh
      clear hh
      clear hX
      go_simp
      try simp
     clear HC9
     intro HC9
     try simp only [Act.put, zA, zB, zC]
     refine take_H 73 (.slice (some ⟨b0, o0, none⟩) l.length cp) (some 193) (GK.grow _) HC9 rfl (by kernel_rfl) rfl (fun _ _ _ h => h) (YieldsIf.toG (Or.inl ⟨by rfl, ?_⟩)) (GK.drop (by simp)) ?_
     ·intro X hX
      clear hX
      go_simp
      try simp
     clear HC9
     intro HC9
     try simp only [Act.put, zA, zB, zC]
     refine take_H 74 (.int .i64 (k : Int)) (some 194) (GK.grow _) HC9 rfl (by kernel_rfl) rfl (fun _ _ _ h => h) (YieldsIf.toG (Or.inl ⟨by rfl, ?_⟩)) (GK.drop (by simp)) ?_
     ·intro X hX
      clear hX
      go_simp
      try simp
     clear HC9
     intro HC9
     try simp only [Act.put, zA, zB, zC]
     refine take_H 75 (.pointer (some ⟨b0, o0 + k * 8, none⟩)) (some 195) (GK.grow _) HC9 rfl (by kernel_rfl) rfl (fun _ _ _ h => h) (YieldsIf.toG (Or.inl ⟨by rfl, ?_⟩)) (GK.drop (by simp)) ?_
     ·intro X hX
      clear hX
      go_simp
      try simp
     clear HC9
     intro HC9
     try simp only [Act.put, zA, zB, zC]
     refine take_H 76 (.pointer (some ⟨b0, o0 + k * 8 + 2, none⟩)) (some 196) (GK.grow _) HC9 rfl (by kernel_rfl) rfl (fun _ _ _ h => h) (YieldsIf.toG (Or.inl ⟨by rfl, ?_⟩)) (GK.drop (by simp)) ?_
     ·intro X hX
      clear hX
      go_simp
      try simp
     clear HC9
     intro HC9
     try simp only [Act.put, zA, zB, zC]
     refine take_H 77 (.pointer (some ⟨b0, o0 + k * 8 + 4, none⟩)) (some 197) (GK.grow _) HC9 rfl (by kernel_rfl) rfl (fun _ _ _ h => h) (YieldsIf.toG (Or.inl ⟨by rfl, ?_⟩)) (GK.drop (by simp)) ?_
     ·intro X hX
      clear hX
      go_simp
      try simp
     clear HC9
     intro HC9
     try simp only [Act.put, zA, zB, zC]
     refine take_H 78 (.agg #[.int .i64 s.re, .int .i64 s.im, .int .i64 s.dn]) (some 198) (GK.grow _) HC9 rfl (by kernel_rfl) rfl (fun _ _ _ h => h) (YieldsIf.toG (Or.inl ⟨by rfl, ?_⟩)) (HAL.out 78) ?_
     ·intro X hX
      have hh := hX (78, b0, ob0) (List.Mem.tail _ (List.Mem.tail _ (List.Mem.tail _ (List.Mem.tail _ (List.Mem.tail _ (List.Mem.tail _ (List.Mem.tail _ (List.Mem.tail _ (List.Mem.tail _ (List.Mem.head _)))))))))) rfl
      have hh0 := (CC.out _ hh 4 _ rfl)
      have hh1 := (CC.out _ hh 5 _ rfl)
      have hh2 := (CC.out _ hh 6 _ rfl)
      have hhl := blk_lt hh
      clear hh
      clear hX
      go_simp
      try simp
     clear HC9
     intro HC9
     try simp only [Act.put, zA, zB, zC]
     refine take_H 79 (.bool false) (some 199) (GK.grow _) HC9 rfl (by kernel_rfl) rfl (fun _ _ _ h => h) (YieldsIf.toG (Or.inl ⟨by rfl, ?_⟩)) (GK.drop (by simp)) ?_
     ·intro X hX
      clear hX
      go_simp
      try simp
     clear HC9
     intro HC9
     try simp only [Act.put, zA, zB, zC]
     refine take_H 80 (.bool false) (some 200) (GK.grow _) HC9 rfl (by kernel_rfl) rfl (fun _ _ _ h => h) (YieldsIf.toG (Or.inl ⟨by rfl, ?_⟩)) (GK.drop (by simp)) ?_
     ·intro X hX
      clear hX
      go_simp
      try simp
     clear HC9
     intro HC9
     try simp only [Act.put, zA, zB, zC]
     clear HAL
     refine done_G (by kernel_rfl) (fun X23 hX => ?_) _
     replace Z1 := zn hX Z1
     replace Z2 := zn hX Z2
     replace Z0 := zn hX Z0
     replace N0 := zh (Bgo N0.out hX)
     replace NN := zh (Bgo NN.out hX)
     clear hX
     go_wp2_with fail
     have hlt9 := HXK.out
     exact ⟨⟨k + 1, by omega, by go_num, N0⟩, by simp [intOf]; omega⟩
   ·as_aux_lemma =>
     have q1 : (s.n != 0) = true := by simpa using h1
     have HDRW := zh (Below.drew (Below.refl wr.heap.size wr))
     replace Z1 := zn HDRW Z1
     replace Z2 := zn HDRW Z2
     replace Z0 := zn HDRW Z0
     replace N0 := zh (Bgo N0.out HDRW.out)
     replace NN := zh (Bgo NN.out HDRW.out)
     clear HDRW
     have HAL : Hid (∀ kx9 : Nat, GK [(5, b2, ob2), (11, b1, ob1), (19, b1, ob1), (25, b1, ob1), (29, b0, ob0), (39, b2, ob2), (45, b2, ob2), (49, b0, ob0), (57, b1, ob1), (62, b0, ob0), (72, b1, ob1), (78, b0, ob0)] kx9 wr.drew) := zh (fun kx9 => fun px9 hp e => by
      simp only [List.mem_cons, List.not_mem_nil, or_false] at hp
      rcases hp with rfl | rfl | rfl | rfl | rfl | rfl | rfl | rfl | rfl | rfl | rfl | rfl
      ·exact Z2.out
      ·exact Z1.out
      ·exact Z1.out
      ·exact Z1.out
      ·exact Z0.out
      ·exact Z2.out
      ·exact Z2.out
      ·exact Z0.out
      ·exact Z1.out
      ·exact Z0.out
      ·exact Z1.out
      ·exact Z0.out
     )
     refine region_H (S := GK [(5, b2, ob2), (11, b1, ob1), (19, b1, ob1), (25, b1, ob1), (29, b0, ob0), (39, b2, ob2), (45, b2, ob2), (49, b0, ob0), (57, b1, ob1), (62, b0, ob0), (72, b1, ob1), (78, b0, ob0)]) (by kernel_rfl) (by kernel_rfl) (by kernel_rfl) ?_
     intro HC9
     refine take_H 0 (.slice (some ⟨b2, o2, none⟩) X.length c2) (some 120) (GK.grow _) HC9 rfl (by kernel_rfl) rfl (fun _ _ _ h => h) (YieldsIf.toG (Or.inl ⟨by rfl, ?_⟩)) (GK.drop (by simp)) ?_
     ·intro X hX
      clear hX
      go_simp
      try simp
     clear HC9
     intro HC9
     try simp only [Act.put, zA, zB, zC]
     refine take_H 1 (.int .i64 (k : Int)) (some 121) (GK.grow _) HC9 rfl (by kernel_rfl) rfl (fun _ _ _ h => h) (YieldsIf.toG (Or.inl ⟨by rfl, ?_⟩)) (GK.drop (by simp)) ?_
     ·intro X hX
      clear hX
      go_simp
      try simp
     clear HC9
     intro HC9
     try simp only [Act.put, zA, zB, zC]
     refine take_H 2 (.pointer (some ⟨b2, o2 + k * 8, none⟩)) (some 122) (GK.grow _) HC9 rfl (by kernel_rfl) rfl (fun _ _ _ h => h) (YieldsIf.toG (Or.inl ⟨by rfl, ?_⟩)) (GK.drop (by simp)) ?_
     ·intro X hX
      clear hX
      go_simp
      try simp
     clear HC9
     intro HC9
     try simp only [Act.put, zA, zB, zC]
     refine take_H 3 (.pointer (some ⟨b2, o2 + k * 8 + 2, none⟩)) (some 123) (GK.grow _) HC9 rfl (by kernel_rfl) rfl (fun _ _ _ h => h) (YieldsIf.toG (Or.inl ⟨by rfl, ?_⟩)) (GK.drop (by simp)) ?_
     ·intro X hX
      clear hX
      go_simp
      try simp
     clear HC9
     intro HC9
     try simp only [Act.put, zA, zB, zC]
     refine take_H 4 (.pointer (some ⟨b2, o2 + k * 8 + 7, none⟩)) (some 124) (GK.grow _) HC9 rfl (by kernel_rfl) rfl (fun _ _ _ h => h) (YieldsIf.toG (Or.inl ⟨by rfl, ?_⟩)) (GK.drop (by simp)) ?_
     ·intro X hX
      clear hX
      go_simp
      try simp
     clear HC9
     intro HC9
     try simp only [Act.put, zA, zB, zC]
     refine take_H 5 (.int .i64 s.n) (some 125) (GK.grow _) HC9 rfl (by kernel_rfl) rfl (fun _ _ _ h => h) (YieldsIf.toG (Or.inl ⟨by rfl, ?_⟩)) (HAL.out 5) ?_
     ·intro X hX
      have hh := hX (5, b2, ob2) (List.Mem.head _) rfl
      have hh0 := (CB.out _ hh 7 _ rfl)
      have hhl := blk_lt hh
      clear hh
      clear hX
      go_simp
      try simp
     clear HC9
     intro HC9
     try simp only [Act.put, zA, zB, zC]
     refine take_H 6 (.slice (some ⟨b1, o1, none⟩) X.length c1) (some 126) (GK.grow _) HC9 rfl (by kernel_rfl) rfl (fun _ _ _ h => h) (YieldsIf.toG (Or.inl ⟨by rfl, ?_⟩)) (GK.drop (by simp)) ?_
     ·intro X hX
      clear hX
      go_simp
      try simp
     clear HC9
     intro HC9
     try simp only [Act.put, zA, zB, zC]
     refine take_H 7 (.int .i64 (k : Int)) (some 127) (GK.grow _) HC9 rfl (by kernel_rfl) rfl (fun _ _ _ h => h) (YieldsIf.toG (Or.inl ⟨by rfl, ?_⟩)) (GK.drop (by simp)) ?_
     ·intro X hX
      clear hX
      go_simp
      try simp
     clear HC9
     intro HC9
     try simp only [Act.put, zA, zB, zC]
     refine take_H 8 (.pointer (some ⟨b1, o1 + k * 8, none⟩)) (some 128) (GK.grow _) HC9 rfl (by kernel_rfl) rfl (fun _ _ _ h => h) (YieldsIf.toG (Or.inl ⟨by rfl, ?_⟩)) (GK.drop (by simp)) ?_
     ·intro X hX
      clear hX
      go_simp
      try simp
     clear HC9
     intro HC9
     try simp only [Act.put, zA, zB, zC]
     refine take_H 9 (.pointer (some ⟨b1, o1 + k * 8 + 2, none⟩)) (some 129) (GK.grow _) HC9 rfl (by kernel_rfl) rfl (fun _ _ _ h => h) (YieldsIf.toG (Or.inl ⟨by rfl, ?_⟩)) (GK.drop (by simp)) ?_
     ·intro X hX
      clear hX
      go_simp
      try simp
     clear HC9
     intro HC9
     try simp only [Act.put, zA, zB, zC]
     refine take_H 10 (.pointer (some ⟨b1, o1 + k * 8 + 7, none⟩)) (some 130) (GK.grow _) HC9 rfl (by kernel_rfl) rfl (fun _ _ _ h => h) (YieldsIf.toG (Or.inl ⟨by rfl, ?_⟩)) (GK.drop (by simp)) ?_
     ·intro X hX
      clear hX
      go_simp
      try simp
     clear HC9
     intro HC9
     try simp only [Act.put, zA, zB, zC]
     refine take_H 11 (.int .i64 s.n) (some 131) (GK.grow _) HC9 rfl (by kernel_rfl) rfl (fun _ _ _ h => h) (YieldsIf.toG (Or.inl ⟨by rfl, ?_⟩)) (HAL.out 11) ?_
     ·intro X hX
      have hh := hX (11, b1, ob1) (List.Mem.tail _ (List.Mem.head _)) rfl
      have hh0 := (CA.out _ hh 7 _ rfl)
      have hhl := blk_lt hh
      clear hh
      clear hX
      go_simp
      try simp
     clear HC9
     intro HC9
     try simp only [Act.put, zA, zB, zC]
     refine take_H 12 (.bool false) (some 132) (GK.grow _) HC9 rfl (by kernel_rfl) rfl (fun _ _ _ h => h) (YieldsIf.toG (Or.inl ⟨by rfl, ?_⟩)) (GK.drop (by simp)) ?_
     ·intro X hX
      clear hX
      go_simp
      try simp
     clear HC9
     intro HC9
     try simp only [Act.put, zA, zB, zC]
     refine take_H 13 (.bool false) (some 133) (GK.grow _) HC9 rfl (by kernel_rfl) rfl (fun _ _ _ h => h) (YieldsIf.toG (Or.inl ⟨by rfl, ?_⟩)) (GK.drop (by simp)) ?_
     ·intro X hX
      clear hX
      go_simp
      try simp
     clear HC9
     intro HC9
     try simp only [Act.put, zA, zB, zC]
     refine take_H 14 (.slice (some ⟨b1, o1, none⟩) X.length c1) (some 134) (GK.grow _) HC9 rfl (by kernel_rfl) rfl (fun _ _ _ h => h) (YieldsIf.toG (Or.inl ⟨by rfl, ?_⟩)) (GK.drop (by simp)) ?_
     ·intro X hX
      clear hX
      go_simp
      try simp
     clear HC9
     intro HC9
     try simp only [Act.put, zA, zB, zC]
     refine take_H 15 (.int .i64 (k : Int)) (some 135) (GK.grow _) HC9 rfl (by kernel_rfl) rfl (fun _ _ _ h => h) (YieldsIf.toG (Or.inl ⟨by rfl, ?_⟩)) (GK.drop (by simp)) ?_
     ·intro X hX
      clear hX
      go_simp
      try simp
     clear HC9
     intro HC9
     try simp only [Act.put, zA, zB, zC]
     refine take_H 16 (.pointer (some ⟨b1, o1 + k * 8, none⟩)) (some 136) (GK.grow _) HC9 rfl (by kernel_rfl) rfl (fun _ _ _ h => h) (YieldsIf.toG (Or.inl ⟨by rfl, ?_⟩)) (GK.drop (by simp)) ?_
     ·intro X hX
      clear hX
      go_simp
      try simp
     clear HC9
     intro HC9
     try simp only [Act.put, zA, zB, zC]
     refine take_H 17 (.pointer (some ⟨b1, o1 + k * 8 + 2, none⟩)) (some 137) (GK.grow _) HC9 rfl (by kernel_rfl) rfl (fun _ _ _ h => h) (YieldsIf.toG (Or.inl ⟨by rfl, ?_⟩)) (GK.drop (by simp)) ?_
     ·intro X hX
      clear hX
      go_simp
      try simp
     clear HC9
     intro HC9
     try simp only [Act.put, zA, zB, zC]
     refine take_H 18 (.pointer (some ⟨b1, o1 + k * 8 + 7, none⟩)) (some 138) (GK.grow _) HC9 rfl (by kernel_rfl) rfl (fun _ _ _ h => h) (YieldsIf.toG (Or.inl ⟨by rfl, ?_⟩)) (GK.drop (by simp)) ?_
     ·intro X hX
      clear hX
      go_simp
      try simp
     clear HC9
     intro HC9
     try simp only [Act.put, zA, zB, zC]
     refine take_H 19 (.int .i64 s.n) (some 139) (GK.grow _) HC9 rfl (by kernel_rfl) rfl (fun _ _ _ h => h) (YieldsIf.toG (Or.inl ⟨by rfl, ?_⟩)) (HAL.out 19) ?_
     ·intro X hX
      have hh := hX (19, b1, ob1) (List.Mem.tail _ (List.Mem.tail _ (List.Mem.head _))) rfl
      have hh0 := (CA.out _ hh 7 _ rfl)
      have hhl := blk_lt hh
      clear hh
      clear hX
      go_simp
      try simp
     clear HC9
     intro HC9
     try simp only [Act.put, zA, zB, zC]
     refine take_H 20 (.bool true) (some 140) (GK.grow _) HC9 rfl (by kernel_rfl) rfl (fun _ _ _ h => h) (YieldsIf.toG (Or.inl ⟨by rfl, ?_⟩)) (GK.drop (by simp)) ?_
     ·intro X hX
      clear hX
      go_simp
      try simp
     clear HC9
     intro HC9
     try simp only [Act.put, zA, zB, zC]
     refine take_H 21 (.bool true) (some 141) (GK.grow _) HC9 rfl (by kernel_rfl) rfl (fun _ _ _ h => h) (YieldsIf.toG (Or.inl ⟨by rfl, ?_⟩)) (GK.drop (by simp)) ?_
     ·intro X hX
      clear hX
      go_simp
      try simp
     clear HC9
     intro HC9
     try simp only [Act.put, zA, zB, zC]
     refine take_H 22 (.slice (some ⟨b1, o1, none⟩) X.length c1) (some 142) (GK.grow _) HC9 rfl (by kernel_rfl) rfl (fun _ _ _ h => h) (YieldsIf.toG (Or.inl ⟨by rfl, ?_⟩)) (GK.drop (by simp)) ?_
     ·intro X hX
      clear hX
      go_simp
      try simp
     clear HC9
     intro HC9
     try simp only [Act.put, zA, zB, zC]
     refine take_H 23 (.int .i64 (k : Int)) (some 143) (GK.grow _) HC9 rfl (by kernel_rfl) rfl (fun _ _ _ h => h) (YieldsIf.toG (Or.inl ⟨by rfl, ?_⟩)) (GK.drop (by simp)) ?_
     ·intro X hX
      clear hX
      go_simp
      try simp
     clear HC9
     intro HC9
     try simp only [Act.put, zA, zB, zC]
     refine take_H 24 (.pointer (some ⟨b1, o1 + k * 8, none⟩)) (some 144) (GK.grow _) HC9 rfl (by kernel_rfl) rfl (fun _ _ _ h => h) (YieldsIf.toG (Or.inl ⟨by rfl, ?_⟩)) (GK.drop (by simp)) ?_
     ·intro X hX
      clear hX
      go_simp
      try simp
     clear HC9
     intro HC9
     try simp only [Act.put, zA, zB, zC]
     refine take_H 25 (.agg #[.int .i64 s.t, .int .i64 s.c, .int .i64 s.i, .int .i64 s.j, .int .i64 s.re, .int .i64 s.im, .int .i64 s.dn, .int .i64 s.n]) (some 145) (GK.grow _) HC9 rfl (by kernel_rfl) rfl (fun _ _ _ h => h) (YieldsIf.toG (Or.inl ⟨by rfl, ?_⟩)) (HAL.out 25) ?_
     ·intro X hX
      have hh := hX (25, b1, ob1) (List.Mem.tail _ (List.Mem.tail _ (List.Mem.tail _ (List.Mem.head _)))) rfl
      have hh0 := (CA.out _ hh 0 _ rfl)
      simp only [Nat.add_zero] at hh0
      have hh1 := (CA.out _ hh 1 _ rfl)
      have hh2 := (CA.out _ hh 2 _ rfl)
      have hh3 := (CA.out _ hh 3 _ rfl)
      have hh4 := (CA.out _ hh 4 _ rfl)
      have hh5 := (CA.out _ hh 5 _ rfl)
      have hh6 := (CA.out _ hh 6 _ rfl)
      have hh7 := (CA.out _ hh 7 _ rfl)
      have hhl := blk_lt hh
      clear hh
      clear hX
      go_simp
      try simp
     clear HC9
     intro HC9
     try simp only [Act.put, zA, zB, zC]
     refine take_H 26 (.slice (some ⟨b0, o0, none⟩) l.length cp) (some 146) (GK.grow _) HC9 rfl (by kernel_rfl) rfl (fun _ _ _ h => h) (YieldsIf.toG (Or.inl ⟨by rfl, ?_⟩)) (GK.drop (by simp)) ?_
     ·intro X hX
      clear hX
      go_simp
      try simp
     clear HC9
     intro HC9
     try simp only [Act.put, zA, zB, zC]
     refine take_H 27 (.int .i64 (k : Int)) (some 147) (GK.grow _) HC9 rfl (by kernel_rfl) rfl (fun _ _ _ h => h) (YieldsIf.toG (Or.inl ⟨by rfl, ?_⟩)) (GK.drop (by simp)) ?_
     ·intro X hX
      clear hX
      go_simp
      try simp
     clear HC9
     intro HC9
     try simp only [Act.put, zA, zB, zC]
     refine take_H 28 (.pointer (some ⟨b0, o0 + k * 8, none⟩)) (some 148) (GK.grow _) HC9 rfl (by kernel_rfl) rfl (fun _ _ _ h => h) (YieldsIf.toG (Or.inl ⟨by rfl, ?_⟩)) (GK.drop (by simp)) ?_
     ·intro X hX
      clear hX
      go_simp
      try simp
     clear HC9
     intro HC9
     try simp only [Act.put, zA, zB, zC]
     refine take_H 29 (.agg #[.int .i64 s.t, .int .i64 s.c, .int .i64 s.i, .int .i64 s.j, .int .i64 s.re, .int .i64 s.im, .int .i64 s.dn, .int .i64 s.n]) (some 149) (GK.grow _) HC9 rfl (by kernel_rfl) rfl (fun _ _ _ h => h) (YieldsIf.toG (Or.inl ⟨by rfl, ?_⟩)) (HAL.out 29) ?_
     ·intro X hX
      have hh := hX (29, b0, ob0) (List.Mem.tail _ (List.Mem.tail _ (List.Mem.tail _ (List.Mem.tail _ (List.Mem.head _))))) rfl
      have hh0 := (CC.out _ hh 0 _ rfl)
      simp only [Nat.add_zero] at hh0
      have hh1 := (CC.out _ hh 1 _ rfl)
      have hh2 := (CC.out _ hh 2 _ rfl)
      have hh3 := (CC.out _ hh 3 _ rfl)
      have hh4 := (CC.out _ hh 4 _ rfl)
      have hh5 := (CC.out _ hh 5 _ rfl)
      have hh6 := (CC.out _ hh 6 _ rfl)
      have hh7 := (CC.out _ hh 7 _ rfl)
      have hhl := blk_lt hh
      clear hh
      clear hX
      go_simp
      try simp
     clear HC9
     intro HC9
     try simp only [Act.put, zA, zB, zC]
     refine take_H 30 (.bool false) (some 150) (GK.grow _) HC9 rfl (by kernel_rfl) rfl (fun _ _ _ h => h) (YieldsIf.toG (Or.inl ⟨by rfl, ?_⟩)) (GK.drop (by simp)) ?_
     ·intro X hX
      clear hX
      go_simp
      try simp
     clear HC9
     intro HC9
     try simp only [Act.put, zA, zB, zC]
     refine take_H 31 (.bool false) (some 151) (GK.grow _) HC9 rfl (by kernel_rfl) rfl (fun _ _ _ h => h) (YieldsIf.toG (Or.inl ⟨by rfl, ?_⟩)) (GK.drop (by simp)) ?_
     ·intro X hX
      clear hX
      go_simp
      try simp
     clear HC9
     intro HC9
     try simp only [Act.put, zA, zB, zC]
     refine take_H 32 (.bool false) (some 152) (GK.grow _) HC9 rfl (by kernel_rfl) rfl (fun _ _ _ h => h) (YieldsIf.toG (Or.inl ⟨by rfl, ?_⟩)) (GK.drop (by simp)) ?_
     ·intro X hX
      clear hX
      go_simp
      try simp
     clear HC9
     intro HC9
     try simp only [Act.put, zA, zB, zC]
     refine take_H 33 (.bool false) (some 153) (GK.grow _) HC9 rfl (by kernel_rfl) rfl (fun _ _ _ h => h) (YieldsIf.toG (Or.inl ⟨by rfl, ?_⟩)) (GK.drop (by simp)) ?_
     ·intro X hX
      clear hX
      go_simp
      try simp
     clear HC9
     intro HC9
     try simp only [Act.put, zA, zB, zC]
     refine take_H 34 (.slice (some ⟨b2, o2, none⟩) X.length c2) (some 154) (GK.grow _) HC9 rfl (by kernel_rfl) rfl (fun _ _ _ h => h) (YieldsIf.toG (Or.inl ⟨by rfl, ?_⟩)) (GK.drop (by simp)) ?_
     ·intro X hX
      clear hX
      go_simp
      try simp
     clear HC9
     intro HC9
     try simp only [Act.put, zA, zB, zC]
     refine take_H 35 (.int .i64 (k : Int)) (some 155) (GK.grow _) HC9 rfl (by kernel_rfl) rfl (fun _ _ _ h => h) (YieldsIf.toG (Or.inl ⟨by rfl, ?_⟩)) (GK.drop (by simp)) ?_
     ·intro X hX
      clear hX
      go_simp
      try simp
     clear HC9
     intro HC9
     try simp only [Act.put, zA, zB, zC]
     refine take_H 36 (.pointer (some ⟨b2, o2 + k * 8, none⟩)) (some 156) (GK.grow _) HC9 rfl (by kernel_rfl) rfl (fun _ _ _ h => h) (YieldsIf.toG (Or.inl ⟨by rfl, ?_⟩)) (GK.drop (by simp)) ?_
     ·intro X hX
      clear hX
      go_simp
      try simp
     clear HC9
     intro HC9
     try simp only [Act.put, zA, zB, zC]
     refine take_H 37 (.pointer (some ⟨b2, o2 + k * 8 + 2, none⟩)) (some 157) (GK.grow _) HC9 rfl (by kernel_rfl) rfl (fun _ _ _ h => h) (YieldsIf.toG (Or.inl ⟨by rfl, ?_⟩)) (GK.drop (by simp)) ?_
     ·intro X hX
      clear hX
      go_simp
      try simp
     clear HC9
     intro HC9
     try simp only [Act.put, zA, zB, zC]
     refine take_H 38 (.pointer (some ⟨b2, o2 + k * 8 + 7, none⟩)) (some 158) (GK.grow _) HC9 rfl (by kernel_rfl) rfl (fun _ _ _ h => h) (YieldsIf.toG (Or.inl ⟨by rfl, ?_⟩)) (GK.drop (by simp)) ?_
     ·intro X hX
      clear hX
      go_simp
      try simp
     clear HC9
     intro HC9
     try simp only [Act.put, zA, zB, zC]
     refine take_H 39 (.int .i64 s.n) (some 159) (GK.grow _) HC9 rfl (by kernel_rfl) rfl (fun _ _ _ h => h) (YieldsIf.toG (Or.inl ⟨by rfl, ?_⟩)) (HAL.out 39) ?_
     ·intro X hX
      have hh := hX (39, b2, ob2) (List.Mem.tail _ (List.Mem.tail _ (List.Mem.tail _ (List.Mem.tail _ (List.Mem.tail _ (List.Mem.head _)))))) rfl
      have hh0 := (CB.out _ hh 7 _ rfl)
      have hhl := blk_lt hh
      clear hh
      clear hX
      go_simp
      try simp
     clear HC9
     intro HC9
     try simp only [Act.put, zA, zB, zC]
     refine take_H 40 (.bool true) (some 160) (GK.grow _) HC9 rfl (by kernel_rfl) rfl (fun _ _ _ h => h) (YieldsIf.toG (Or.inl ⟨by rfl, ?_⟩)) (GK.drop (by simp)) ?_
     ·intro X hX
      clear hX
      go_simp
      try simp
     clear HC9
     intro HC9
     try simp only [Act.put, zA, zB, zC]
     refine take_H 41 (.bool true) (some 161) (GK.grow _) HC9 rfl (by kernel_rfl) rfl (fun _ _ _ h => h) (YieldsIf.toG (Or.inl ⟨by rfl, ?_⟩)) (GK.drop (by simp)) ?_
     ·intro X hX
      clear hX
      go_simp
      try simp
     clear HC9
     intro HC9
     try simp only [Act.put, zA, zB, zC]
     refine take_H 42 (.slice (some ⟨b2, o2, none⟩) X.length c2) (some 162) (GK.grow _) HC9 rfl (by kernel_rfl) rfl (fun _ _ _ h => h) (YieldsIf.toG (Or.inl ⟨by rfl, ?_⟩)) (GK.drop (by simp)) ?_
     ·intro X hX
      clear hX
      go_simp
      try simp
     clear HC9
     intro HC9
     try simp only [Act.put, zA, zB, zC]
     refine take_H 43 (.int .i64 (k : Int)) (some 163) (GK.grow _) HC9 rfl (by kernel_rfl) rfl (fun _ _ _ h => h) (YieldsIf.toG (Or.inl ⟨by rfl, ?_⟩)) (GK.drop (by simp)) ?_
     ·intro X hX
      clear hX
      go_simp
      try simp
     clear HC9
     intro HC9
     try simp only [Act.put, zA, zB, zC]
     refine take_H 44 (.pointer (some ⟨b2, o2 + k * 8, none⟩)) (some 164) (GK.grow _) HC9 rfl (by kernel_rfl) rfl (fun _ _ _ h => h) (YieldsIf.toG (Or.inl ⟨by rfl, ?_⟩)) (GK.drop (by simp)) ?_
     ·intro X hX
      clear hX
      go_simp
      try simp
     clear HC9
     intro HC9
     try simp only [Act.put, zA, zB, zC]
     refine take_H 45 (.agg #[.int .i64 s.t, .int .i64 s.c, .int .i64 s.i, .int .i64 s.j, .int .i64 s.re, .int .i64 s.im, .int .i64 s.dn, .int .i64 s.n]) (some 165) (GK.grow _) HC9 rfl (by kernel_rfl) rfl (fun _ _ _ h => h) (YieldsIf.toG (Or.inl ⟨by rfl, ?_⟩)) (HAL.out 45) ?_
     ·intro X hX
      have hh := hX (45, b2, ob2) (List.Mem.tail _ (List.Mem.tail _ (List.Mem.tail _ (List.Mem.tail _ (List.Mem.tail _ (List.Mem.tail _ (List.Mem.head _))))))) rfl
      have hh0 := (CB.out _ hh 0 _ rfl)
      simp only [Nat.add_zero] at hh0
      have hh1 := (CB.out _ hh 1 _ rfl)
      have hh2 := (CB.out _ hh 2 _ rfl)
      have hh3 := (CB.out _ hh 3 _ rfl)
      have hh4 := (CB.out _ hh 4 _ rfl)
      have hh5 := (CB.out _ hh 5 _ rfl)
      have hh6 := (CB.out _ hh 6 _ rfl)
      have hh7 := (CB.out _ hh 7 _ rfl)
      have hhl := blk_lt hh
      clear hh
      clear hX
      go_simp
      try simp
     clear HC9
     intro HC9
     try simp only [Act.put, zA, zB, zC]
     refine take_H 46 (.slice (some ⟨b0, o0, none⟩) l.length cp) (some 166) (GK.grow _) HC9 rfl (by kernel_rfl) rfl (fun _ _ _ h => h) (YieldsIf.toG (Or.inl ⟨by rfl, ?_⟩)) (GK.drop (by simp)) ?_
     ·intro X hX
      clear hX
      go_simp
      try simp
     clear HC9
     intro HC9
     try simp only [Act.put, zA, zB, zC]
     refine take_H 47 (.int .i64 (k : Int)) (some 167) (GK.grow _) HC9 rfl (by kernel_rfl) rfl (fun _ _ _ h => h) (YieldsIf.toG (Or.inl ⟨by rfl, ?_⟩)) (GK.drop (by simp)) ?_
     ·intro X hX
      clear hX
      go_simp
      try simp
     clear HC9
     intro HC9
     try simp only [Act.put, zA, zB, zC]
     refine take_H 48 (.pointer (some ⟨b0, o0 + k * 8, none⟩)) (some 168) (GK.grow _) HC9 rfl (by kernel_rfl) rfl (fun _ _ _ h => h) (YieldsIf.toG (Or.inl ⟨by rfl, ?_⟩)) (GK.drop (by simp)) ?_
     ·intro X hX
      clear hX
      go_simp
      try simp
     clear HC9
     intro HC9
     try simp only [Act.put, zA, zB, zC]
     refine take_H 49 (.agg #[.int .i64 s.t, .int .i64 s.c, .int .i64 s.i, .int .i64 s.j, .int .i64 s.re, .int .i64 s.im, .int .i64 s.dn, .int .i64 s.n]) (some 169) (GK.grow _) HC9 rfl (by kernel_rfl) rfl (fun _ _ _ h => h) (YieldsIf.toG (Or.inl ⟨by rfl, ?_⟩)) (HAL.out 49) ?_
     ·intro X hX
      have hh := hX (49, b0, ob0) (List.Mem.tail _ (List.Mem.tail _ (List.Mem.tail _ (List.Mem.tail _ (List.Mem.tail _ (List.Mem.tail _ (List.Mem.tail _ (List.Mem.head _)))))))) rfl
      have hh0 := (CC.out _ hh 0 _ rfl)
      simp only [Nat.add_zero] at hh0
      have hh1 := (CC.out _ hh 1 _ rfl)
      have hh2 := (CC.out _ hh 2 _ rfl)
      have hh3 := (CC.out _ hh 3 _ rfl)
      have hh4 := (CC.out _ hh 4 _ rfl)
      have hh5 := (CC.out _ hh 5 _ rfl)
      have hh6 := (CC.out _ hh 6 _ rfl)
      have hh7 := (CC.out _ hh 7 _ rfl)
      have hhl := blk_lt hh
      clear hh
      clear hX
      go_simp
      try simp
     clear HC9
     intro HC9
     try simp only [Act.put, zA, zB, zC]
     refine take_H 50 (.bool false) (some 170) (GK.grow _) HC9 rfl (by kernel_rfl) rfl (fun _ _ _ h => h) (YieldsIf.toG (Or.inl ⟨by rfl, ?_⟩)) (GK.drop (by simp)) ?_
     ·intro X hX
      clear hX
      go_simp
      try simp
     clear HC9
     intro HC9
     try simp only [Act.put, zA, zB, zC]
     refine take_H 51 (.bool false) (some 171) (GK.grow _) HC9 rfl (by kernel_rfl) rfl (fun _ _ _ h => h) (YieldsIf.toG (Or.inl ⟨by rfl, ?_⟩)) (GK.drop (by simp)) ?_
     ·intro X hX
      clear hX
      go_simp
      try simp
     clear HC9
     intro HC9
     try simp only [Act.put, zA, zB, zC]
     refine take_H 52 (.bool false) (some 172) (GK.grow _) HC9 rfl (by kernel_rfl) rfl (fun _ _ _ h => h) (YieldsIf.toG (Or.inl ⟨by rfl, ?_⟩)) (GK.drop (by simp)) ?_
     ·intro X hX
      clear hX
      go_simp
      try simp
     clear HC9
     intro HC9
     try simp only [Act.put, zA, zB, zC]
     refine take_H 53 (.bool false) (some 173) (GK.grow _) HC9 rfl (by kernel_rfl) rfl (fun _ _ _ h => h) (YieldsIf.toG (Or.inl ⟨by rfl, ?_⟩)) (GK.drop (by simp)) ?_
     ·intro X hX
      clear hX
      go_simp
      try simp
     clear HC9
     intro HC9
     try simp only [Act.put, zA, zB, zC]
     refine take_H 54 (.slice (some ⟨b1, o1, none⟩) X.length c1) (some 174) (GK.grow _) HC9 rfl (by kernel_rfl) rfl (fun _ _ _ h => h) (YieldsIf.toG (Or.inl ⟨by rfl, ?_⟩)) (GK.drop (by simp)) ?_
     ·intro X hX
      clear hX
      go_simp
      try simp
     clear HC9
     intro HC9
     try simp only [Act.put, zA, zB, zC]
     refine take_H 55 (.int .i64 (k : Int)) (some 175) (GK.grow _) HC9 rfl (by kernel_rfl) rfl (fun _ _ _ h => h) (YieldsIf.toG (Or.inl ⟨by rfl, ?_⟩)) (GK.drop (by simp)) ?_
     ·intro X hX
      clear hX
      go_simp
      try simp
     clear HC9
     intro HC9
     try simp only [Act.put, zA, zB, zC]
     refine take_H 56 (.pointer (some ⟨b1, o1 + k * 8, none⟩)) (some 176) (GK.grow _) HC9 rfl (by kernel_rfl) rfl (fun _ _ _ h => h) (YieldsIf.toG (Or.inl ⟨by rfl, ?_⟩)) (GK.drop (by simp)) ?_
     ·intro X hX
      clear hX
      go_simp
      try simp
     clear HC9
     intro HC9
     try simp only [Act.put, zA, zB, zC]
     refine take_H 57 (.agg #[.int .i64 s.t, .int .i64 s.c, .int .i64 s.i, .int .i64 s.j, .int .i64 s.re, .int .i64 s.im, .int .i64 s.dn, .int .i64 s.n]) (some 177) (GK.grow _) HC9 rfl (by kernel_rfl) rfl (fun _ _ _ h => h) (YieldsIf.toG (Or.inl ⟨by rfl, ?_⟩)) (HAL.out 57) ?_
     ·intro X hX
      have hh := hX (57, b1, ob1) (List.Mem.tail _ (List.Mem.tail _ (List.Mem.tail _ (List.Mem.tail _ (List.Mem.tail _ (List.Mem.tail _ (List.Mem.tail _ (List.Mem.tail _ (List.Mem.head _))))))))) rfl
      have hh0 := (CA.out _ hh 0 _ rfl)
      simp only [Nat.add_zero] at hh0
      have hh1 := (CA.out _ hh 1 _ rfl)
      have hh2 := (CA.out _ hh 2 _ rfl)
      have hh3 := (CA.out _ hh 3 _ rfl)
      have hh4 := (CA.out _ hh 4 _ rfl)
      have hh5 := (CA.out _ hh 5 _ rfl)
      have hh6 := (CA.out _ hh 6 _ rfl)
      have hh7 := (CA.out _ hh 7 _ rfl)
      have hhl := blk_lt hh
      clear hh
      clear hX
      go_simp
      try simp
     clear HC9
     intro HC9
     try simp only [Act.put, zA, zB, zC]
     have CFn : ∀ (args : Array Value) (W : World), Sem.run Tryz.prog (callFunc 19 args) W = .ok (.enter 19 args) W := fun _ _ => by kernel_rfl
     refine take_H 58 (.int .i64 kv) (some 178) (GK.grow _) HC9 rfl (by kernel_rfl) rfl (fun _ _ _ h => h) (yieldsG_call 19 #[.agg #[.int .i64 s.t, .int .i64 s.c, .int .i64 s.i, .int .i64 s.j, .int .i64 s.re, .int .i64 s.im, .int .i64 s.dn, .int .i64 s.n]] (by rfl) ?_ (fun X hS => KT.out X)) (GK.drop (by simp)) ?_
     ·intro X hX
      clear hX
      go_simp
     clear CFn
     clear HC9
     intro HC9
     try simp only [Act.put, zA, zB, zC]
     refine take_H 59 (.slice (some ⟨b0, o0, none⟩) l.length cp) (some 179) (GK.grow _) HC9 rfl (by kernel_rfl) rfl (fun _ _ _ h => h) (YieldsIf.toG (Or.inl ⟨by rfl, ?_⟩)) (GK.drop (by simp)) ?_
     ·intro X hX
      clear hX
      go_simp
      try simp
     clear HC9
     intro HC9
     try simp only [Act.put, zA, zB, zC]
     refine take_H 60 (.int .i64 (k : Int)) (some 180) (GK.grow _) HC9 rfl (by kernel_rfl) rfl (fun _ _ _ h => h) (YieldsIf.toG (Or.inl ⟨by rfl, ?_⟩)) (GK.drop (by simp)) ?_
     ·intro X hX
      clear hX
      go_simp
      try simp
     clear HC9
     intro HC9
     try simp only [Act.put, zA, zB, zC]
     refine take_H 61 (.pointer (some ⟨b0, o0 + k * 8, none⟩)) (some 181) (GK.grow _) HC9 rfl (by kernel_rfl) rfl (fun _ _ _ h => h) (YieldsIf.toG (Or.inl ⟨by rfl, ?_⟩)) (GK.drop (by simp)) ?_
     ·intro X hX
      clear hX
      go_simp
      try simp
     clear HC9
     intro HC9
     try simp only [Act.put, zA, zB, zC]
     refine take_H 62 (.agg #[.int .i64 s.t, .int .i64 s.c, .int .i64 s.i, .int .i64 s.j, .int .i64 s.re, .int .i64 s.im, .int .i64 s.dn, .int .i64 s.n]) (some 182) (GK.grow _) HC9 rfl (by kernel_rfl) rfl (fun _ _ _ h => h) (YieldsIf.toG (Or.inl ⟨by rfl, ?_⟩)) (HAL.out 62) ?_
     ·intro X hX
      have hh := hX (62, b0, ob0) (List.Mem.tail _ (List.Mem.tail _ (List.Mem.tail _ (List.Mem.tail _ (List.Mem.tail _ (List.Mem.tail _ (List.Mem.tail _ (List.Mem.tail _ (List.Mem.tail _ (List.Mem.head _)))))))))) rfl
      have hh0 := (CC.out _ hh 0 _ rfl)
      simp only [Nat.add_zero] at hh0
      have hh1 := (CC.out _ hh 1 _ rfl)
      have hh2 := (CC.out _ hh 2 _ rfl)
      have hh3 := (CC.out _ hh 3 _ rfl)
      have hh4 := (CC.out _ hh 4 _ rfl)
      have hh5 := (CC.out _ hh 5 _ rfl)
      have hh6 := (CC.out _ hh 6 _ rfl)
      have hh7 := (CC.out _ hh 7 _ rfl)
      have hhl := blk_lt hh
      clear hh
      clear hX
      go_simp
      try simp
     clear HC9
     intro HC9
     try simp only [Act.put, zA, zB, zC]
     have CFn : ∀ (args : Array Value) (W : World), Sem.run Tryz.prog (callFunc 19 args) W = .ok (.enter 19 args) W := fun _ _ => by kernel_rfl
     refine take_H 63 (.int .i64 kv) (some 183) (GK.grow _) HC9 rfl (by kernel_rfl) rfl (fun _ _ _ h => h) (yieldsG_call 19 #[.agg #[.int .i64 s.t, .int .i64 s.c, .int .i64 s.i, .int .i64 s.j, .int .i64 s.re, .int .i64 s.im, .int .i64 s.dn, .int .i64 s.n]] (by rfl) ?_ (fun X hS => KT.out X)) (GK.drop (by simp)) ?_
     ·intro X hX
      clear hX
      go_simp
     clear CFn
     clear HC9
     intro HC9
     try simp only [Act.put, zA, zB, zC]
     refine take_H 64 (.bool false) (some 184) (GK.grow _) HC9 rfl (by kernel_rfl) rfl (fun _ _ _ h => h) (YieldsIf.toG (Or.inl ⟨by rfl, ?_⟩)) (GK.drop (by simp)) ?_
     ·intro X hX
      clear hX
      go_simp
      try simp
     clear HC9
     intro HC9
     try simp only [Act.put, zA, zB, zC]
     refine take_H 65 (.bool false) (some 185) (GK.grow _) HC9 rfl (by kernel_rfl) rfl (fun _ _ _ h => h) (YieldsIf.toG (Or.inl ⟨by rfl, ?_⟩)) (GK.drop (by simp)) ?_
     ·intro X hX
      clear hX
      go_simp
      try simp
     clear HC9
     intro HC9
     try simp only [Act.put, zA, zB, zC]
     refine take_H 66 (.bool false) (some 186) (GK.grow _) HC9 rfl (by kernel_rfl) rfl (fun _ _ _ h => h) (YieldsIf.toG (Or.inl ⟨by rfl, ?_⟩)) (GK.drop (by simp)) ?_
     ·intro X hX
      clear hX
      go_simp
      try simp
     clear HC9
     intro HC9
     try simp only [Act.put, zA, zB, zC]
     refine take_H 67 (.slice (some ⟨b1, o1, none⟩) X.length c1) (some 187) (GK.grow _) HC9 rfl (by kernel_rfl) rfl (fun _ _ _ h => h) (YieldsIf.toG (Or.inl ⟨by rfl, ?_⟩)) (GK.drop (by simp)) ?_
     ·intro X hX
      clear hX
      go_simp
      try simp
     clear HC9
     intro HC9
     try simp only [Act.put, zA, zB, zC]
     refine take_H 68 (.int .i64 (k : Int)) (some 188) (GK.grow _) HC9 rfl (by kernel_rfl) rfl (fun _ _ _ h => h) (YieldsIf.toG (Or.inl ⟨by rfl, ?_⟩)) (GK.drop (by simp)) ?_
     ·intro X hX
      clear hX
      go_simp
      try simp
     clear HC9
     intro HC9
     try simp only [Act.put, zA, zB, zC]
     refine take_H 69 (.pointer (some ⟨b1, o1 + k * 8, none⟩)) (some 189) (GK.grow _) HC9 rfl (by kernel_rfl) rfl (fun _ _ _ h => h) (YieldsIf.toG (Or.inl ⟨by rfl, ?_⟩)) (GK.drop (by simp)) ?_
     ·intro X hX
      clear hX
      go_simp
      try simp
     clear HC9
     intro HC9
     try simp only [Act.put, zA, zB, zC]
     refine take_H 70 (.pointer (some ⟨b1, o1 + k * 8 + 2, none⟩)) (some 190) (GK.grow _) HC9 rfl (by kernel_rfl) rfl (fun _ _ _ h => h) (YieldsIf.toG (Or.inl ⟨by rfl, ?_⟩)) (GK.drop (by simp)) ?_
     ·intro X hX
      clear hX
      go_simp
      try simp
     clear HC9
     intro HC9
     try simp only [Act.put, zA, zB, zC]
     refine take_H 71 (.pointer (some ⟨b1, o1 + k * 8 + 4, none⟩)) (some 191) (GK.grow _) HC9 rfl (by kernel_rfl) rfl (fun _ _ _ h => h) (YieldsIf.toG (Or.inl ⟨by rfl, ?_⟩)) (GK.drop (by simp)) ?_
     ·intro X hX
      clear hX
      go_simp
      try simp
     clear HC9
     intro HC9
     try simp only [Act.put, zA, zB, zC]
     refine take_H 72 (.agg #[.int .i64 s.re, .int .i64 s.im, .int .i64 s.dn]) (some 192) (GK.grow _) HC9 rfl (by kernel_rfl) rfl (fun _ _ _ h => h) (YieldsIf.toG (Or.inl ⟨by rfl, ?_⟩)) (HAL.out 72) ?_
     ·intro X hX
      have hh := hX (72, b1, ob1) (List.Mem.tail _ (List.Mem.tail _ (List.Mem.tail _ (List.Mem.tail _ (List.Mem.tail _ (List.Mem.tail _ (List.Mem.tail _ (List.Mem.tail _ (List.Mem.tail _ (List.Mem.tail _ (List.Mem.head _))))))))))) rfl
      have hh0 := (CA.out _ hh 4 _ rfl)
      have hh1 := (CA.out _ hh 5 _ rfl)
      have hh2 := (CA.out _ hh 6 _ rfl)
      have hhl := blk_lt hh
      clear hh
      clear hX
      go_simp
      try simp
     clear HC9
     intro HC9
     try simp only [Act.put, zA, zB, zC]
     refine take_H 73 (.slice (some ⟨b0, o0, none⟩) l.length cp) (some 193) (GK.grow _) HC9 rfl (by kernel_rfl) rfl (fun _ _ _ h => h) (YieldsIf.toG (Or.inl ⟨by rfl, ?_⟩)) (GK.drop (by simp)) ?_
     ·intro X hX
      clear hX
      go_simp
      try simp
     clear HC9
     intro HC9
     try simp only [Act.put, zA, zB, zC]
     refine take_H 74 (.int .i64 (k : Int)) (some 194) (GK.grow _) HC9 rfl (by kernel_rfl) rfl (fun _ _ _ h => h) (YieldsIf.toG (Or.inl ⟨by rfl, ?_⟩)) (GK.drop (by simp)) ?_
     ·intro X hX
      clear hX
      go_simp
      try simp
     clear HC9
     intro HC9
     try simp only [Act.put, zA, zB, zC]
     refine take_H 75 (.pointer (some ⟨b0, o0 + k * 8, none⟩)) (some 195) (GK.grow _) HC9 rfl (by kernel_rfl) rfl (fun _ _ _ h => h) (YieldsIf.toG (Or.inl ⟨by rfl, ?_⟩)) (GK.drop (by simp)) ?_
     ·intro X hX
      clear hX
      go_simp
      try simp
     clear HC9
     intro HC9
     try simp only [Act.put, zA, zB, zC]
     refine take_H 76 (.pointer (some ⟨b0, o0 + k * 8 + 2, none⟩)) (some 196) (GK.grow _) HC9 rfl (by kernel_rfl) rfl (fun _ _ _ h => h) (YieldsIf.toG (Or.inl ⟨by rfl, ?_⟩)) (GK.drop (by simp)) ?_
     ·intro X hX
      clear hX
      go_simp
      try simp
     clear HC9
     intro HC9
     try simp only [Act.put, zA, zB, zC]
     refine take_H 77 (.pointer (some ⟨b0, o0 + k * 8 + 4, none⟩)) (some 197) (GK.grow _) HC9 rfl (by kernel_rfl) rfl (fun _ _ _ h => h) (YieldsIf.toG (Or.inl ⟨by rfl, ?_⟩)) (GK.drop (by simp)) ?_
     ·intro X hX
      clear hX
      go_simp
      try simp
     clear HC9
     intro HC9
     try simp only [Act.put, zA, zB, zC]
     refine take_H 78 (.agg #[.int .i64 s.re, .int .i64 s.im, .int .i64 s.dn]) (some 198) (GK.grow _) HC9 rfl (by kernel_rfl) rfl (fun _ _ _ h => h) (YieldsIf.toG (Or.inl ⟨by rfl, ?_⟩)) (HAL.out 78) ?_
     ·intro X hX
      have hh := hX (78, b0, ob0) (List.Mem.tail _ (List.Mem.tail _ (List.Mem.tail _ (List.Mem.tail _ (List.Mem.tail _ (List.Mem.tail _ (List.Mem.tail _ (List.Mem.tail _ (List.Mem.tail _ (List.Mem.tail _ (List.Mem.tail _ (List.Mem.head _)))))))))))) rfl
      have hh0 := (CC.out _ hh 4 _ rfl)
      have hh1 := (CC.out _ hh 5 _ rfl)
      have hh2 := (CC.out _ hh 6 _ rfl)
      have hhl := blk_lt hh
      clear hh
      clear hX
      go_simp
      try simp
     clear HC9
     intro HC9
     try simp only [Act.put, zA, zB, zC]
     refine take_H 79 (.bool false) (some 199) (GK.grow _) HC9 rfl (by kernel_rfl) rfl (fun _ _ _ h => h) (YieldsIf.toG (Or.inl ⟨by rfl, ?_⟩)) (GK.drop (by simp)) ?_
     ·intro X hX
      clear hX
      go_simp
      try simp
     clear HC9
     intro HC9
     try simp only [Act.put, zA, zB, zC]
     refine take_H 80 (.bool false) (some 200) (GK.grow _) HC9 rfl (by kernel_rfl) rfl (fun _ _ _ h => h) (YieldsIf.toG (Or.inl ⟨by rfl, ?_⟩)) (GK.drop (by simp)) ?_
     ·intro X hX
      clear hX
      go_simp
      try simp
     clear HC9
     intro HC9
     try simp only [Act.put, zA, zB, zC]
     clear HAL
     refine done_G (by kernel_rfl) (fun X24 hX => ?_) _
     replace Z1 := zn hX Z1
     replace Z2 := zn hX Z2
     replace Z0 := zn hX Z0
     replace N0 := zh (Bgo N0.out hX)
     replace NN := zh (Bgo NN.out hX)
     clear hX
     go_wp2_with fail
     have hlt9 := HXK.out
     exact ⟨⟨k + 1, by omega, by go_num, N0⟩, by simp [intOf]; omega⟩
end Go.Proofs.YtbbnkclajpaghaaGreatDoor
