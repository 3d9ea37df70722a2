/- Contract of layer 25: Parse of the reference. -/
import Derived.Test.YtbbjclbpllfdeaaDoorCtj
namespace Go.Proofs.YtbbjclbpllfdeaaDoor
open Go.ChangeShapes Go.WideShapes Go.ChangeAt Go.RowKit Cxm
set_option linter.unusedVariables false
attribute [local go_sem ↓] Go.wp_at_zero Go.wp_at_succ

theorem text_cuts {l : List UInt8} {n i d : Int} (h : textX n i d = l) : (Lib.cut (Lib.cut l [47]).1 [44]).1 = Lib.itoa n ∧ (Lib.cut (Lib.cut l [47]).1 [44]).2.1 = Lib.itoa i ∧ (Lib.cut l [47]).2.1 = (if d = 1 then [] else Lib.itoa d) := by
  rw [← h, cut_text]
  simp only [cut_parts, and_self]
theorem itoa_ne (n : Int) : Lib.itoa n ≠ [] := by
  by_cases h : n < 0
  · rw [itoa_neg' h]; simp
  · rw [itoa_pos' h]; exact dec_ne _
theorem cut_len (l : List UInt8) (m : UInt8) : (Lib.cut l [m]).1.length ≤ l.length ∧ (Lib.cut l [m]).2.1.length ≤ l.length := by
  unfold Lib.cut; split <;> simp <;> omega
theorem size_str (l : List UInt8) : (⟨l.toArray⟩ : ByteArray).size = l.length := by simp [ByteArray.size]
set_option maxRecDepth 100000 in
set_option maxHeartbeats 8000000 in
theorem refParse_calls (s : ByteArray) (w : World) (hs : s.size ≤ 100) :
    Calls Tryd.prog 13 #[.string s] w (PUX s.data.toList w) := by
  have SL := s_len s
  have TL : Hid (s.toList = s.data.toList) := Lib.hid (ByteArray.toList_eq ..)
  have C1 := Lib.hid (fun W => (show Calls Tryd.prog 34 #[.string s, .int .u8 47] W (CUP s.data.toList 47 W) from refCut_calls s 47 W (by omega)))
  obtain ⟨l, hl⟩ : ∃ l, s.data.toList = l := ⟨_, rfl⟩
  rw [hl] at SL C1 TL ⊢
  clear hl
  obtain ⟨n1, n2⟩ := cut_len l 47
  have TC := Lib.hid (fun n i d (h : textX n i d = l) => text_cuts h)
  generalize hlp : (Lib.cut l [47]).1 = lp at *
  generalize hld : (Lib.cut l [47]).2.1 = ld at *
  have HP := Lib.hid (And.intro hlp hld)
  have C2 := Lib.hid (fun W => (show Calls Tryd.prog 34 #[Str lp, .int .u8 44] W (CUP (⟨lp.toArray⟩ : ByteArray).data.toList 44 W) from refCut_calls ⟨lp.toArray⟩ 44 W (by rw [size_str]; omega)))
  rw [show (⟨lp.toArray⟩ : ByteArray).data.toList = lp by simp] at C2
  obtain ⟨n3, n4⟩ := cut_len lp 44
  generalize hla : (Lib.cut lp [44]).1 = la at *
  generalize hlb : (Lib.cut lp [44]).2.1 = lb at *
  have HQ := Lib.hid (And.intro hla hlb)
  clear hlp hld hla hlb
  have N1 := Lib.hid (fun W => number_calls ⟨la.toArray⟩ W (by rw [size_str]; omega))
  have N2 := Lib.hid (fun W => number_calls ⟨lb.toArray⟩ W (by rw [size_str]; omega))
  have N3 := Lib.hid (fun W => number_calls ⟨ld.toArray⟩ W (by rw [size_str]; omega))
  rw [show (⟨la.toArray⟩ : ByteArray).data.toList = la by simp] at N1
  rw [show (⟨lb.toArray⟩ : ByteArray).data.toList = lb by simp] at N2
  rw [show (⟨ld.toArray⟩ : ByteArray).data.toList = ld by simp] at N3
  have ldb : ld.length ≤ 100 := by omega
  have NN := Lib.hid (Below.refl w.heap.size w)
  clear n1 n2 n3 n4 SL
  go_enter Tryd.func13, Tryd.ntmps13
  have HB : Hid (Below w.heap.size w (w.alloc (.cells #[.int .i64 0, .int .i64 0, .int .i64 0] 23))) := Lib.hid (Bal (Below.refl _ _) _)
  have K := Lib.hid (blk_new w (.cells #[.int .i64 0, .int .i64 0, .int .i64 0] 23))
  have LT_K : Hid (w.heap.size ≤ w.heap.size) := Lib.hid NN.out.size
  replace NN := Lib.hid (Bgo NN.out HB.out)
  clear HB
  go_wp2_with fail
  generalize w.alloc (.cells #[.int .i64 0, .int .i64 0, .int .i64 0] 23) = W1 at *
  refine (C1.out _).mono ?_
  rintro e w2 ⟨rfl, hb⟩
  replace NN := Lib.hid (Bgo NN.out hb)
  replace K := Lib.hid (blk_next hb K.out)
  clear hb
  rw [HP.out.1, HP.out.2]
  go_wp2_with fail
  refine (C2.out _).mono ?_
  rintro e w3 ⟨rfl, hb⟩
  replace NN := Lib.hid (Bgo NN.out hb)
  replace K := Lib.hid (blk_next hb K.out)
  clear hb
  rw [HQ.out.1, HQ.out.2]
  go_wp2_with fail
  have HB : Hid (Below w3.heap.size w3 (w3.alloc (.cells #[.int .i64 0, .int .i64 0, .int .i64 1] 23))) := Lib.hid (Bal (Below.refl _ _) _)
  have A := Lib.hid (blk_new w3 (.cells #[.int .i64 0, .int .i64 0, .int .i64 1] 23))
  have LT_A : Hid (w.heap.size < w3.heap.size ∧ w.heap.size ≤ w3.heap.size) := Lib.hid ⟨blk_lt K.out, NN.out.size⟩
  replace NN := Lib.hid (Bgo NN.out HB.out)
  replace K := Lib.hid (blk_next HB.out K.out)
  clear HB
  generalize w3.alloc (.cells #[.int .i64 0, .int .i64 0, .int .i64 1] 23) = W4 at *
  generalize w3.heap.size = ga at *
  refine (N1.out _).mono ?_
  rintro e w5 ⟨x, b1, rfl, hx, rfl⟩
  have X1 := Lib.hid hx
  clear hx
  have c_A_0 := blk_cell A.out 0 _ rfl
  have f_A_0 := blk_frozen A.out 0
  have c_A_1 := blk_cell A.out 1 _ rfl
  have f_A_1 := blk_frozen A.out 1
  have c_A_2 := blk_cell A.out 2 _ rfl
  have f_A_2 := blk_frozen A.out 2
  have l_A := blk_lt A.out
  go_wp2_with fail
  clear c_A_0 f_A_0 c_A_1 f_A_1 c_A_2 f_A_2 l_A
  replace K : Hid ((w5.setCell ⟨ga, 0, none⟩ (.int .i64 x)).heap[w.heap.size]? = some (.cells #[.int .i64 0, .int .i64 0, .int .i64 0] 23)) := Lib.hid (blk_set_other (b' := ga) (K.out) (by have := LT_A.out; omega) 0 (.int .i64 x))
  replace A : Hid ((w5.setCell ⟨ga, 0, none⟩ (.int .i64 x)).heap[ga]? = some (.cells #[.int .i64 x, .int .i64 0, .int .i64 1] 23)) := Lib.hid (blk_set (A.out) 0 (.int .i64 x))
  replace NN := Lib.hid (Bset1 (NN.out) (show w.heap.size ≤ ga by have := LT_A.out; omega) 0 (.int .i64 x))
  generalize (w5.setCell ⟨ga, 0, none⟩ (.int .i64 x)) = W6 at *
  refine (N2.out _).mono ?_
  rintro e w7 ⟨y, b2, rfl, hx, rfl⟩
  have X2 := Lib.hid hx
  clear hx
  have c_A_0 := blk_cell A.out 0 _ rfl
  have f_A_0 := blk_frozen A.out 0
  have c_A_1 := blk_cell A.out 1 _ rfl
  have f_A_1 := blk_frozen A.out 1
  have c_A_2 := blk_cell A.out 2 _ rfl
  have f_A_2 := blk_frozen A.out 2
  have l_A := blk_lt A.out
  by_cases le : 0 < ld.length
  · have l1 : decide ((0 : Int) < (ld.length : Int)) = true := decide_eq_true (by omega)
    go_wp2_with fail
    clear c_A_0 f_A_0 c_A_1 f_A_1 c_A_2 f_A_2 l_A
    replace K : Hid ((w7.setCell ⟨ga, 1, none⟩ (.int .i64 y)).heap[w.heap.size]? = some (.cells #[.int .i64 0, .int .i64 0, .int .i64 0] 23)) := Lib.hid (blk_set_other (b' := ga) (K.out) (by have := LT_A.out; omega) 1 (.int .i64 y))
    replace A : Hid ((w7.setCell ⟨ga, 1, none⟩ (.int .i64 y)).heap[ga]? = some (.cells #[.int .i64 x, .int .i64 y, .int .i64 1] 23)) := Lib.hid (blk_set (A.out) 1 (.int .i64 y))
    replace NN := Lib.hid (Bset1 (NN.out) (show w.heap.size ≤ ga by have := LT_A.out; omega) 1 (.int .i64 y))
    generalize (w7.setCell ⟨ga, 1, none⟩ (.int .i64 y)) = W8 at *
    refine (N3.out _).mono ?_
    rintro e w9 ⟨z, b3, rfl, hx, rfl⟩
    have X3 := Lib.hid hx
    clear hx
    have c_A_0 := blk_cell A.out 0 _ rfl
    have f_A_0 := blk_frozen A.out 0
    have c_A_1 := blk_cell A.out 1 _ rfl
    have f_A_1 := blk_frozen A.out 1
    have c_A_2 := blk_cell A.out 2 _ rfl
    have f_A_2 := blk_frozen A.out 2
    have l_A := blk_lt A.out
    go_wp2_with fail
    clear c_A_0 f_A_0 c_A_1 f_A_1 c_A_2 f_A_2 l_A
    replace K : Hid ((w9.setCell ⟨ga, 2, none⟩ (.int .i64 z)).heap[w.heap.size]? = some (.cells #[.int .i64 0, .int .i64 0, .int .i64 0] 23)) := Lib.hid (blk_set_other (b' := ga) (K.out) (by have := LT_A.out; omega) 2 (.int .i64 z))
    replace A : Hid ((w9.setCell ⟨ga, 2, none⟩ (.int .i64 z)).heap[ga]? = some (.cells #[.int .i64 x, .int .i64 y, .int .i64 z] 23)) := Lib.hid (blk_set (A.out) 2 (.int .i64 z))
    replace NN := Lib.hid (Bset1 (NN.out) (show w.heap.size ≤ ga by have := LT_A.out; omega) 2 (.int .i64 z))
    have U2 : Hid (∀ n i d, chkB n i d = true → textX n i d = l → b1 = true ∧ b2 = true ∧ chkE x y z = 0 ∧ txR x y z = l) := Lib.hid (fun n i d v h => by
      obtain ⟨v1, v2, v3, _⟩ := chk_iff.1 v
      obtain ⟨a, b, c⟩ := TC.out n i d h
      obtain ⟨rfl, rfl⟩ := X1.out n v2.1 v2.2 a.symm
      obtain ⟨rfl, rfl⟩ := X2.out i v3.1 v3.2 b.symm
      have dn : ¬ d = 1 := fun e => by rw [if_pos e] at c; rw [c] at le; simp at le
      rw [if_neg dn] at c
      obtain ⟨rfl, _⟩ := X3.out d (by omega) (by omega) c.symm
      exact ⟨rfl, rfl, chkE_yes v, by unfold txR; rw [if_pos v]; exact h⟩)
    have TC2 := Lib.hid (fun W => refText_calls x y z W)
    have OKR := Lib.hid (fun (h1 : chkE x y z = 0) (h2 : txR x y z = l) => PX.some h1 h2)
    obtain ⟨tx, htx⟩ : ∃ t, txR x y z = t := ⟨_, rfl⟩
    obtain ⟨er, her⟩ : ∃ t, chkE x y z = t := ⟨_, rfl⟩
    rw [htx, her] at TC2 OKR U2
    clear htx her X1 X2 TC
    have c_A_0 := blk_cell A.out 0 _ rfl
    have c_A_1 := blk_cell A.out 1 _ rfl
    have c_A_2 := blk_cell A.out 2 _ rfl
    have l_A := blk_lt A.out
    have c_K_0 := blk_cell K.out 0 _ rfl
    have c_K_1 := blk_cell K.out 1 _ rfl
    have c_K_2 := blk_cell K.out 2 _ rfl
    have l_K := blk_lt K.out
    go_wp2_with fail
    clear c_A_0 c_A_1 c_A_2 l_A c_K_0 c_K_1 c_K_2 l_K
    refine (TC2.out _).mono ?_
    rintro e w11 ⟨rfl, hb⟩
    replace NN := Lib.hid (Bgo NN.out hb)
    replace K := Lib.hid (blk_next hb K.out)
    replace A := Lib.hid (blk_next hb A.out)
    clear hb
    obtain ⟨hA1, hA2⟩ := LT_A.out
    cases b1
    · have NO := Lib.hid (PX.none (l := l) (fun n i d v h => by have := (U2.out n i d v h).1; cases this))
      clear U2 OKR
      have c_K_0 := blk_cell K.out 0 _ rfl
      have f_K_0 := blk_frozen K.out 0
      have c_K_1 := blk_cell K.out 1 _ rfl
      have f_K_1 := blk_frozen K.out 1
      have c_K_2 := blk_cell K.out 2 _ rfl
      have f_K_2 := blk_frozen K.out 2
      have l_K := blk_lt K.out
      have c_A_0 := blk_cell A.out 0 _ rfl
      have f_A_0 := blk_frozen A.out 0
      have c_A_1 := blk_cell A.out 1 _ rfl
      have f_A_1 := blk_frozen A.out 1
      have c_A_2 := blk_cell A.out 2 _ rfl
      have f_A_2 := blk_frozen A.out 2
      have l_A := blk_lt A.out
      go_wp2_with fail
      clear c_K_0 f_K_0 c_K_1 f_K_1 c_K_2 f_K_2 l_K c_A_0 f_A_0 c_A_1 f_A_1 c_A_2 f_A_2 l_A
      have e0 := blk_cell (blk_set (blk_set (blk_set (K.out) 0 (.int .i64 0)) 1 (.int .i64 0)) 2 (.int .i64 0)) 0 _ rfl
      have e1 := blk_cell (blk_set (blk_set (blk_set (K.out) 0 (.int .i64 0)) 1 (.int .i64 0)) 2 (.int .i64 0)) 1 _ rfl
      have e2 := blk_cell (blk_set (blk_set (blk_set (K.out) 0 (.int .i64 0)) 1 (.int .i64 0)) 2 (.int .i64 0)) 2 _ rfl
      exact bodyPost_ret (v := Rv 0 0 0 12) (by simp [results, Tryd.results13, go_sem, e0, e1, e2]) rfl ⟨_, _, _, _, rfl, NO.out, Bset1 (Bset1 (Bset1 (NN.out) (by have := LT_K.out; omega) _ _) (by have := LT_K.out; omega) _ _) (by have := LT_K.out; omega) _ _⟩
    cases b2
    · have NO := Lib.hid (PX.none (l := l) (fun n i d v h => by have := (U2.out n i d v h).2.1; cases this))
      clear U2 OKR
      have c_K_0 := blk_cell K.out 0 _ rfl
      have f_K_0 := blk_frozen K.out 0
      have c_K_1 := blk_cell K.out 1 _ rfl
      have f_K_1 := blk_frozen K.out 1
      have c_K_2 := blk_cell K.out 2 _ rfl
      have f_K_2 := blk_frozen K.out 2
      have l_K := blk_lt K.out
      have c_A_0 := blk_cell A.out 0 _ rfl
      have f_A_0 := blk_frozen A.out 0
      have c_A_1 := blk_cell A.out 1 _ rfl
      have f_A_1 := blk_frozen A.out 1
      have c_A_2 := blk_cell A.out 2 _ rfl
      have f_A_2 := blk_frozen A.out 2
      have l_A := blk_lt A.out
      go_wp2_with fail
      clear c_K_0 f_K_0 c_K_1 f_K_1 c_K_2 f_K_2 l_K c_A_0 f_A_0 c_A_1 f_A_1 c_A_2 f_A_2 l_A
      have e0 := blk_cell (blk_set (blk_set (blk_set (K.out) 0 (.int .i64 0)) 1 (.int .i64 0)) 2 (.int .i64 0)) 0 _ rfl
      have e1 := blk_cell (blk_set (blk_set (blk_set (K.out) 0 (.int .i64 0)) 1 (.int .i64 0)) 2 (.int .i64 0)) 1 _ rfl
      have e2 := blk_cell (blk_set (blk_set (blk_set (K.out) 0 (.int .i64 0)) 1 (.int .i64 0)) 2 (.int .i64 0)) 2 _ rfl
      exact bodyPost_ret (v := Rv 0 0 0 12) (by simp [results, Tryd.results13, go_sem, e0, e1, e2]) rfl ⟨_, _, _, _, rfl, NO.out, Bset1 (Bset1 (Bset1 (NN.out) (by have := LT_K.out; omega) _ _) (by have := LT_K.out; omega) _ _) (by have := LT_K.out; omega) _ _⟩
    by_cases ez : er = 0
    rotate_left
    · have ez' : (er != 0) = true := by rw [bne_iff_ne]; exact ez
      have NO := Lib.hid (PX.none (l := l) (fun n i d v h => ez (U2.out n i d v h).2.2.1))
      clear U2 OKR ez
      have c_K_0 := blk_cell K.out 0 _ rfl
      have f_K_0 := blk_frozen K.out 0
      have c_K_1 := blk_cell K.out 1 _ rfl
      have f_K_1 := blk_frozen K.out 1
      have c_K_2 := blk_cell K.out 2 _ rfl
      have f_K_2 := blk_frozen K.out 2
      have l_K := blk_lt K.out
      have c_A_0 := blk_cell A.out 0 _ rfl
      have f_A_0 := blk_frozen A.out 0
      have c_A_1 := blk_cell A.out 1 _ rfl
      have f_A_1 := blk_frozen A.out 1
      have c_A_2 := blk_cell A.out 2 _ rfl
      have f_A_2 := blk_frozen A.out 2
      have l_A := blk_lt A.out
      go_wp2_with fail
      clear c_K_0 f_K_0 c_K_1 f_K_1 c_K_2 f_K_2 l_K c_A_0 f_A_0 c_A_1 f_A_1 c_A_2 f_A_2 l_A
      have e0 := blk_cell (blk_set (blk_set (blk_set (K.out) 0 (.int .i64 0)) 1 (.int .i64 0)) 2 (.int .i64 0)) 0 _ rfl
      have e1 := blk_cell (blk_set (blk_set (blk_set (K.out) 0 (.int .i64 0)) 1 (.int .i64 0)) 2 (.int .i64 0)) 1 _ rfl
      have e2 := blk_cell (blk_set (blk_set (blk_set (K.out) 0 (.int .i64 0)) 1 (.int .i64 0)) 2 (.int .i64 0)) 2 _ rfl
      exact bodyPost_ret (v := Rv 0 0 0 12) (by simp [results, Tryd.results13, go_sem, e0, e1, e2]) rfl ⟨_, _, _, _, rfl, NO.out, Bset1 (Bset1 (Bset1 (NN.out) (by have := LT_K.out; omega) _ _) (by have := LT_K.out; omega) _ _) (by have := LT_K.out; omega) _ _⟩
    subst ez
    by_cases et : tx = l
    rotate_left
    · have et' : (tx == s.toList) = false := by rw [TL.out, beq_eq_false_iff_ne]; exact et
      have NO := Lib.hid (PX.none (l := l) (fun n i d v h => et (U2.out n i d v h).2.2.2))
      clear U2 OKR et
      have c_K_0 := blk_cell K.out 0 _ rfl
      have f_K_0 := blk_frozen K.out 0
      have c_K_1 := blk_cell K.out 1 _ rfl
      have f_K_1 := blk_frozen K.out 1
      have c_K_2 := blk_cell K.out 2 _ rfl
      have f_K_2 := blk_frozen K.out 2
      have l_K := blk_lt K.out
      have c_A_0 := blk_cell A.out 0 _ rfl
      have f_A_0 := blk_frozen A.out 0
      have c_A_1 := blk_cell A.out 1 _ rfl
      have f_A_1 := blk_frozen A.out 1
      have c_A_2 := blk_cell A.out 2 _ rfl
      have f_A_2 := blk_frozen A.out 2
      have l_A := blk_lt A.out
      go_wp2_with fail
      clear c_K_0 f_K_0 c_K_1 f_K_1 c_K_2 f_K_2 l_K c_A_0 f_A_0 c_A_1 f_A_1 c_A_2 f_A_2 l_A
      have e0 := blk_cell (blk_set (blk_set (blk_set (K.out) 0 (.int .i64 0)) 1 (.int .i64 0)) 2 (.int .i64 0)) 0 _ rfl
      have e1 := blk_cell (blk_set (blk_set (blk_set (K.out) 0 (.int .i64 0)) 1 (.int .i64 0)) 2 (.int .i64 0)) 1 _ rfl
      have e2 := blk_cell (blk_set (blk_set (blk_set (K.out) 0 (.int .i64 0)) 1 (.int .i64 0)) 2 (.int .i64 0)) 2 _ rfl
      exact bodyPost_ret (v := Rv 0 0 0 12) (by simp [results, Tryd.results13, go_sem, e0, e1, e2]) rfl ⟨_, _, _, _, rfl, NO.out, Bset1 (Bset1 (Bset1 (NN.out) (by have := LT_K.out; omega) _ _) (by have := LT_K.out; omega) _ _) (by have := LT_K.out; omega) _ _⟩
    have NO := Lib.hid (OKR.out rfl et)
    have et' : (tx == s.toList) = true := by rw [TL.out, et]; exact beq_self_eq_true _
    clear U2 OKR et
    have c_K_0 := blk_cell K.out 0 _ rfl
    have f_K_0 := blk_frozen K.out 0
    have c_K_1 := blk_cell K.out 1 _ rfl
    have f_K_1 := blk_frozen K.out 1
    have c_K_2 := blk_cell K.out 2 _ rfl
    have f_K_2 := blk_frozen K.out 2
    have l_K := blk_lt K.out
    have c_A_0 := blk_cell A.out 0 _ rfl
    have f_A_0 := blk_frozen A.out 0
    have c_A_1 := blk_cell A.out 1 _ rfl
    have f_A_1 := blk_frozen A.out 1
    have c_A_2 := blk_cell A.out 2 _ rfl
    have f_A_2 := blk_frozen A.out 2
    have l_A := blk_lt A.out
    go_wp2_with fail
    clear c_K_0 f_K_0 c_K_1 f_K_1 c_K_2 f_K_2 l_K c_A_0 f_A_0 c_A_1 f_A_1 c_A_2 f_A_2 l_A
    have e0 := blk_cell (blk_set (blk_set (blk_set (K.out) 0 (.int .i64 x)) 1 (.int .i64 y)) 2 (.int .i64 z)) 0 _ rfl
    have e1 := blk_cell (blk_set (blk_set (blk_set (K.out) 0 (.int .i64 x)) 1 (.int .i64 y)) 2 (.int .i64 z)) 1 _ rfl
    have e2 := blk_cell (blk_set (blk_set (blk_set (K.out) 0 (.int .i64 x)) 1 (.int .i64 y)) 2 (.int .i64 z)) 2 _ rfl
    exact bodyPost_ret (v := Rv x y z 0) (by simp [results, Tryd.results13, go_sem, e0, e1, e2]) rfl ⟨_, _, _, _, rfl, NO.out, Bset1 (Bset1 (Bset1 (NN.out) (by have := LT_K.out; omega) _ _) (by have := LT_K.out; omega) _ _) (by have := LT_K.out; omega) _ _⟩
  · have l1 : decide ((0 : Int) < (ld.length : Int)) = false := decide_eq_false (by omega)
    go_wp2_with fail
    clear c_A_0 f_A_0 c_A_1 f_A_1 c_A_2 f_A_2 l_A
    replace K : Hid ((w7.setCell ⟨ga, 1, none⟩ (.int .i64 y)).heap[w.heap.size]? = some (.cells #[.int .i64 0, .int .i64 0, .int .i64 0] 23)) := Lib.hid (blk_set_other (b' := ga) (K.out) (by have := LT_A.out; omega) 1 (.int .i64 y))
    replace A : Hid ((w7.setCell ⟨ga, 1, none⟩ (.int .i64 y)).heap[ga]? = some (.cells #[.int .i64 x, .int .i64 y, .int .i64 1] 23)) := Lib.hid (blk_set (A.out) 1 (.int .i64 y))
    replace NN := Lib.hid (Bset1 (NN.out) (show w.heap.size ≤ ga by have := LT_A.out; omega) 1 (.int .i64 y))
    have U2 : Hid (∀ n i d, chkB n i d = true → textX n i d = l → b1 = true ∧ b2 = true ∧ chkE x y 1 = 0 ∧ txR x y 1 = l) := Lib.hid (fun n i d v h => by
      obtain ⟨v1, v2, v3, _⟩ := chk_iff.1 v
      obtain ⟨a, b, c⟩ := TC.out n i d h
      obtain ⟨rfl, rfl⟩ := X1.out n v2.1 v2.2 a.symm
      obtain ⟨rfl, rfl⟩ := X2.out i v3.1 v3.2 b.symm
      have dn : d = 1 := by
        by_cases e : d = 1
        · exact e
        · rw [if_neg e] at c
          exact absurd (List.eq_nil_of_length_eq_zero (by omega : ld.length = 0)) (by rw [c]; exact itoa_ne d)
      subst dn
      exact ⟨rfl, rfl, chkE_yes v, by unfold txR; rw [if_pos v]; exact h⟩)
    have TC2 := Lib.hid (fun W => refText_calls x y 1 W)
    have OKR := Lib.hid (fun (h1 : chkE x y 1 = 0) (h2 : txR x y 1 = l) => PX.some h1 h2)
    obtain ⟨tx, htx⟩ : ∃ t, txR x y 1 = t := ⟨_, rfl⟩
    obtain ⟨er, her⟩ : ∃ t, chkE x y 1 = t := ⟨_, rfl⟩
    rw [htx, her] at TC2 OKR U2
    clear htx her X1 X2 TC
    have c_A_0 := blk_cell A.out 0 _ rfl
    have c_A_1 := blk_cell A.out 1 _ rfl
    have c_A_2 := blk_cell A.out 2 _ rfl
    have l_A := blk_lt A.out
    have c_K_0 := blk_cell K.out 0 _ rfl
    have c_K_1 := blk_cell K.out 1 _ rfl
    have c_K_2 := blk_cell K.out 2 _ rfl
    have l_K := blk_lt K.out
    go_wp2_with fail
    clear c_A_0 c_A_1 c_A_2 l_A c_K_0 c_K_1 c_K_2 l_K
    refine (TC2.out _).mono ?_
    rintro e w13 ⟨rfl, hb⟩
    replace NN := Lib.hid (Bgo NN.out hb)
    replace K := Lib.hid (blk_next hb K.out)
    replace A := Lib.hid (blk_next hb A.out)
    clear hb
    obtain ⟨hA1, hA2⟩ := LT_A.out
    cases b1
    · have NO := Lib.hid (PX.none (l := l) (fun n i d v h => by have := (U2.out n i d v h).1; cases this))
      clear U2 OKR
      have c_K_0 := blk_cell K.out 0 _ rfl
      have f_K_0 := blk_frozen K.out 0
      have c_K_1 := blk_cell K.out 1 _ rfl
      have f_K_1 := blk_frozen K.out 1
      have c_K_2 := blk_cell K.out 2 _ rfl
      have f_K_2 := blk_frozen K.out 2
      have l_K := blk_lt K.out
      have c_A_0 := blk_cell A.out 0 _ rfl
      have f_A_0 := blk_frozen A.out 0
      have c_A_1 := blk_cell A.out 1 _ rfl
      have f_A_1 := blk_frozen A.out 1
      have c_A_2 := blk_cell A.out 2 _ rfl
      have f_A_2 := blk_frozen A.out 2
      have l_A := blk_lt A.out
      go_wp2_with fail
      clear c_K_0 f_K_0 c_K_1 f_K_1 c_K_2 f_K_2 l_K c_A_0 f_A_0 c_A_1 f_A_1 c_A_2 f_A_2 l_A
      have e0 := blk_cell (blk_set (blk_set (blk_set (K.out) 0 (.int .i64 0)) 1 (.int .i64 0)) 2 (.int .i64 0)) 0 _ rfl
      have e1 := blk_cell (blk_set (blk_set (blk_set (K.out) 0 (.int .i64 0)) 1 (.int .i64 0)) 2 (.int .i64 0)) 1 _ rfl
      have e2 := blk_cell (blk_set (blk_set (blk_set (K.out) 0 (.int .i64 0)) 1 (.int .i64 0)) 2 (.int .i64 0)) 2 _ rfl
      exact bodyPost_ret (v := Rv 0 0 0 12) (by simp [results, Tryd.results13, go_sem, e0, e1, e2]) rfl ⟨_, _, _, _, rfl, NO.out, Bset1 (Bset1 (Bset1 (NN.out) (by have := LT_K.out; omega) _ _) (by have := LT_K.out; omega) _ _) (by have := LT_K.out; omega) _ _⟩
    cases b2
    · have NO := Lib.hid (PX.none (l := l) (fun n i d v h => by have := (U2.out n i d v h).2.1; cases this))
      clear U2 OKR
      have c_K_0 := blk_cell K.out 0 _ rfl
      have f_K_0 := blk_frozen K.out 0
      have c_K_1 := blk_cell K.out 1 _ rfl
      have f_K_1 := blk_frozen K.out 1
      have c_K_2 := blk_cell K.out 2 _ rfl
      have f_K_2 := blk_frozen K.out 2
      have l_K := blk_lt K.out
      have c_A_0 := blk_cell A.out 0 _ rfl
      have f_A_0 := blk_frozen A.out 0
      have c_A_1 := blk_cell A.out 1 _ rfl
      have f_A_1 := blk_frozen A.out 1
      have c_A_2 := blk_cell A.out 2 _ rfl
      have f_A_2 := blk_frozen A.out 2
      have l_A := blk_lt A.out
      go_wp2_with fail
      clear c_K_0 f_K_0 c_K_1 f_K_1 c_K_2 f_K_2 l_K c_A_0 f_A_0 c_A_1 f_A_1 c_A_2 f_A_2 l_A
      have e0 := blk_cell (blk_set (blk_set (blk_set (K.out) 0 (.int .i64 0)) 1 (.int .i64 0)) 2 (.int .i64 0)) 0 _ rfl
      have e1 := blk_cell (blk_set (blk_set (blk_set (K.out) 0 (.int .i64 0)) 1 (.int .i64 0)) 2 (.int .i64 0)) 1 _ rfl
      have e2 := blk_cell (blk_set (blk_set (blk_set (K.out) 0 (.int .i64 0)) 1 (.int .i64 0)) 2 (.int .i64 0)) 2 _ rfl
      exact bodyPost_ret (v := Rv 0 0 0 12) (by simp [results, Tryd.results13, go_sem, e0, e1, e2]) rfl ⟨_, _, _, _, rfl, NO.out, Bset1 (Bset1 (Bset1 (NN.out) (by have := LT_K.out; omega) _ _) (by have := LT_K.out; omega) _ _) (by have := LT_K.out; omega) _ _⟩
    by_cases ez : er = 0
    rotate_left
    · have ez' : (er != 0) = true := by rw [bne_iff_ne]; exact ez
      have NO := Lib.hid (PX.none (l := l) (fun n i d v h => ez (U2.out n i d v h).2.2.1))
      clear U2 OKR ez
      have c_K_0 := blk_cell K.out 0 _ rfl
      have f_K_0 := blk_frozen K.out 0
      have c_K_1 := blk_cell K.out 1 _ rfl
      have f_K_1 := blk_frozen K.out 1
      have c_K_2 := blk_cell K.out 2 _ rfl
      have f_K_2 := blk_frozen K.out 2
      have l_K := blk_lt K.out
      have c_A_0 := blk_cell A.out 0 _ rfl
      have f_A_0 := blk_frozen A.out 0
      have c_A_1 := blk_cell A.out 1 _ rfl
      have f_A_1 := blk_frozen A.out 1
      have c_A_2 := blk_cell A.out 2 _ rfl
      have f_A_2 := blk_frozen A.out 2
      have l_A := blk_lt A.out
      go_wp2_with fail
      clear c_K_0 f_K_0 c_K_1 f_K_1 c_K_2 f_K_2 l_K c_A_0 f_A_0 c_A_1 f_A_1 c_A_2 f_A_2 l_A
      have e0 := blk_cell (blk_set (blk_set (blk_set (K.out) 0 (.int .i64 0)) 1 (.int .i64 0)) 2 (.int .i64 0)) 0 _ rfl
      have e1 := blk_cell (blk_set (blk_set (blk_set (K.out) 0 (.int .i64 0)) 1 (.int .i64 0)) 2 (.int .i64 0)) 1 _ rfl
      have e2 := blk_cell (blk_set (blk_set (blk_set (K.out) 0 (.int .i64 0)) 1 (.int .i64 0)) 2 (.int .i64 0)) 2 _ rfl
      exact bodyPost_ret (v := Rv 0 0 0 12) (by simp [results, Tryd.results13, go_sem, e0, e1, e2]) rfl ⟨_, _, _, _, rfl, NO.out, Bset1 (Bset1 (Bset1 (NN.out) (by have := LT_K.out; omega) _ _) (by have := LT_K.out; omega) _ _) (by have := LT_K.out; omega) _ _⟩
    subst ez
    by_cases et : tx = l
    rotate_left
    · have et' : (tx == s.toList) = false := by rw [TL.out, beq_eq_false_iff_ne]; exact et
      have NO := Lib.hid (PX.none (l := l) (fun n i d v h => et (U2.out n i d v h).2.2.2))
      clear U2 OKR et
      have c_K_0 := blk_cell K.out 0 _ rfl
      have f_K_0 := blk_frozen K.out 0
      have c_K_1 := blk_cell K.out 1 _ rfl
      have f_K_1 := blk_frozen K.out 1
      have c_K_2 := blk_cell K.out 2 _ rfl
      have f_K_2 := blk_frozen K.out 2
      have l_K := blk_lt K.out
      have c_A_0 := blk_cell A.out 0 _ rfl
      have f_A_0 := blk_frozen A.out 0
      have c_A_1 := blk_cell A.out 1 _ rfl
      have f_A_1 := blk_frozen A.out 1
      have c_A_2 := blk_cell A.out 2 _ rfl
      have f_A_2 := blk_frozen A.out 2
      have l_A := blk_lt A.out
      go_wp2_with fail
      clear c_K_0 f_K_0 c_K_1 f_K_1 c_K_2 f_K_2 l_K c_A_0 f_A_0 c_A_1 f_A_1 c_A_2 f_A_2 l_A
      have e0 := blk_cell (blk_set (blk_set (blk_set (K.out) 0 (.int .i64 0)) 1 (.int .i64 0)) 2 (.int .i64 0)) 0 _ rfl
      have e1 := blk_cell (blk_set (blk_set (blk_set (K.out) 0 (.int .i64 0)) 1 (.int .i64 0)) 2 (.int .i64 0)) 1 _ rfl
      have e2 := blk_cell (blk_set (blk_set (blk_set (K.out) 0 (.int .i64 0)) 1 (.int .i64 0)) 2 (.int .i64 0)) 2 _ rfl
      exact bodyPost_ret (v := Rv 0 0 0 12) (by simp [results, Tryd.results13, go_sem, e0, e1, e2]) rfl ⟨_, _, _, _, rfl, NO.out, Bset1 (Bset1 (Bset1 (NN.out) (by have := LT_K.out; omega) _ _) (by have := LT_K.out; omega) _ _) (by have := LT_K.out; omega) _ _⟩
    have NO := Lib.hid (OKR.out rfl et)
    have et' : (tx == s.toList) = true := by rw [TL.out, et]; exact beq_self_eq_true _
    clear U2 OKR et
    have c_K_0 := blk_cell K.out 0 _ rfl
    have f_K_0 := blk_frozen K.out 0
    have c_K_1 := blk_cell K.out 1 _ rfl
    have f_K_1 := blk_frozen K.out 1
    have c_K_2 := blk_cell K.out 2 _ rfl
    have f_K_2 := blk_frozen K.out 2
    have l_K := blk_lt K.out
    have c_A_0 := blk_cell A.out 0 _ rfl
    have f_A_0 := blk_frozen A.out 0
    have c_A_1 := blk_cell A.out 1 _ rfl
    have f_A_1 := blk_frozen A.out 1
    have c_A_2 := blk_cell A.out 2 _ rfl
    have f_A_2 := blk_frozen A.out 2
    have l_A := blk_lt A.out
    go_wp2_with fail
    clear c_K_0 f_K_0 c_K_1 f_K_1 c_K_2 f_K_2 l_K c_A_0 f_A_0 c_A_1 f_A_1 c_A_2 f_A_2 l_A
    have e0 := blk_cell (blk_set (blk_set (blk_set (K.out) 0 (.int .i64 x)) 1 (.int .i64 y)) 2 (.int .i64 1)) 0 _ rfl
    have e1 := blk_cell (blk_set (blk_set (blk_set (K.out) 0 (.int .i64 x)) 1 (.int .i64 y)) 2 (.int .i64 1)) 1 _ rfl
    have e2 := blk_cell (blk_set (blk_set (blk_set (K.out) 0 (.int .i64 x)) 1 (.int .i64 y)) 2 (.int .i64 1)) 2 _ rfl
    exact bodyPost_ret (v := Rv x y 1 0) (by simp [results, Tryd.results13, go_sem, e0, e1, e2]) rfl ⟨_, _, _, _, rfl, NO.out, Bset1 (Bset1 (Bset1 (NN.out) (by have := LT_K.out; omega) _ _) (by have := LT_K.out; omega) _ _) (by have := LT_K.out; omega) _ _⟩
end Go.Proofs.YtbbjclbpllfdeaaDoor
