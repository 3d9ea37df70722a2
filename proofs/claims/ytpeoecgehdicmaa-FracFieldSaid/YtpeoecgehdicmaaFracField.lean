/- For every input the law FracField returns true and leaves its arguments as they were. -/
import Derived.Test.YtpeoecgehdicmaaRows
import Derived.Test.YtpeoecgehdicmaaFse
import Derived.Test.YtpeoecgehdicmaaFrw
import Derived.Test.YtpeoecgehdicmaaFrx
import Derived.WalkKit
import Derived.ProofKit
import Derived.OpenShut
import Derived.ShutString
import Derived.ChangeOld
import Derived.Below
import Derived.Lib.SmallJoins
namespace Go.Proofs.Ytpeoecgehdicmaa.fracField
open Go.ChangeShapes Go.WideShapes Go.ChangeAt Go.RowKit Go.Joins
open Go.ChangeMaps (open_string shut_string)
set_option linter.unusedVariables false

theorem own : ownKnob Try.prog.godebug = none := by kernel_rfl
theorem laidOut : laidOutB Try.prog = true := by kernel_rfl
theorem eqFr (a b c d : Int) (w : World) : (Op.equalIn 9999 23 (.agg #[.int .i64 a, .int .i64 b]) (.agg #[.int .i64 c, .int .i64 d])).run Try.prog w = .ok (a == c && b == d) w := by
  have u3 := Try.underlying2
  have a3 := Try.isAgg2
  have z3 := Try.sizeOf2
  rw [show (9999 : Nat) = 9998 + 1 from rfl, Op.equalIn]
  simp only [Sem.run_bind, run_underlying Try.underlying23, Result.andThen_ok]
  go_simp
  by_cases h1 : a = c <;> by_cases h2 : b = d <;> simp [h1, h2]
theorem add_comm' {an ad bn bd : Int} (va : VF an ad) (vb : VF bn bd) : addR bn bd an ad = addR an ad bn bd := by
  unfold addR
  rw [if_pos (va.both vb), if_pos (vb.both va), addF_red va vb, addF_red vb va, Int.add_comm, Nat.mul_comm]
theorem mul_comm' {an ad bn bd : Int} (va : VF an ad) (vb : VF bn bd) : mulR bn bd an ad = mulR an ad bn bd := by
  unfold mulR
  rw [if_pos (va.both vb), if_pos (vb.both va), mulF_red va vb, mulF_red vb va, Int.mul_comm, Nat.mul_comm]
theorem cmp_zero {an ad bn bd : Int} (va : VF an ad) (vb : VF bn bd) : (an == bn && ad == bd) = (cmpR an ad bn bd == 0) := by
  unfold cmpR
  rw [if_pos (va.both vb), cmp_same va vb]
  by_cases c : an = bn ∧ ad = bd
  · rw [if_pos c, c.1, c.2]; simp
  · rw [if_neg c]
    have : (an == bn && ad == bd) = false := by rw [Bool.eq_false_iff]; intro h; simp at h; exact c h
    rw [this]
    split <;> rfl
theorem sub_back {an ad bn bd k1 k2 : Int} (va : VF an ad) (vb : VF bn bd) (h : subR an ad bn bd = (k1, k2, 0)) :
    addR k1 k2 bn bd = (an, ad, 0) ∧ decide (0 < k1) = decide (0 < cmpR an ad bn bd) ∧ decide (k1 < 0) = decide (cmpR an ad bn bd < 0) := by
  obtain ⟨vk, e⟩ := sub_ok va vb h rfl
  have a1 := va.d1
  have b1 := vb.d1
  have c1 := vk.d1
  have p : 0 < ad * bd := Int.mul_pos (by omega) (by omega)
  have sg : (0 < k1 ↔ bn * ad < an * bd) ∧ (k1 < 0 ↔ an * bd < bn * ad) := by
    constructor
    · constructor
      · intro h0
        have := Int.mul_pos h0 p
        rw [e] at this
        by_cases t : bn * ad < an * bd
        · exact t
        · have := Int.mul_nonneg (show 0 ≤ bn * ad - an * bd by omega) (show 0 ≤ k2 by omega)
          rw [show (bn * ad - an * bd) * k2 = -((an * bd - bn * ad) * k2) by grind] at this
          omega
      · intro h0
        have := Int.mul_pos (show 0 < an * bd - bn * ad by omega) (show 0 < k2 by omega)
        rw [← e] at this
        by_cases t : 0 < k1
        · exact t
        · have := Int.mul_nonneg (show 0 ≤ -k1 by omega) (show 0 ≤ ad * bd by omega)
          rw [Int.neg_mul] at this
          omega
    · constructor
      · intro h0
        have := Int.mul_pos (show 0 < -k1 by omega) p
        rw [Int.neg_mul, e] at this
        by_cases t : an * bd < bn * ad
        · exact t
        · have := Int.mul_nonneg (show 0 ≤ an * bd - bn * ad by omega) (show 0 ≤ k2 by omega)
          omega
      · intro h0
        have := Int.mul_pos (show 0 < bn * ad - an * bd by omega) (show 0 < k2 by omega)
        rw [show (bn * ad - an * bd) * k2 = -((an * bd - bn * ad) * k2) by grind, ← e] at this
        by_cases t : k1 < 0
        · exact t
        · have := Int.mul_nonneg (show 0 ≤ k1 by omega) (show 0 ≤ ad * bd by omega)
          omega
  refine ⟨?_, ?_, ?_⟩
  · unfold addR
    rw [if_pos (vk.both vb), addF_red vk vb]
    refine redF_of (Nat.mul_pos (by omega) (by omega)) va ?_
    rw [Int.natCast_mul, Int.natAbs_of_nonneg (by omega), Int.natAbs_of_nonneg (by omega)]
    grind
  · unfold cmpR
    rw [if_pos (va.both vb)]
    by_cases t : bn * ad < an * bd
    · rw [cmpI_gt t, decide_eq_true (sg.1.2 t)]; rfl
    · rw [decide_eq_false (fun x => t (sg.1.1 x))]
      symm; rw [decide_eq_false_iff_not]
      by_cases s : an * bd = bn * ad
      · rw [cmpI_eq s]; decide
      · rw [cmpI_lt (by omega)]; decide
  · unfold cmpR
    rw [if_pos (va.both vb)]
    by_cases t : an * bd < bn * ad
    · rw [cmpI_lt t, decide_eq_true (sg.2.2 t)]; rfl
    · rw [decide_eq_false (fun x => t (sg.2.1 x))]
      symm; rw [decide_eq_false_iff_not]
      by_cases s : an * bd = bn * ad
      · rw [cmpI_eq s]; decide
      · rw [cmpI_gt (by omega)]; decide
theorem div_zero {an ad bd : Int} (va : VF an ad) (vb : VF 0 bd) : divR an ad 0 bd = (0, 0, 18) := by
  unfold divR; rw [if_pos (va.both vb), if_pos rfl]
theorem div_back {an ad bn bd q1 q2 r : Int} (va : VF an ad) (vb : VF bn bd) (hb : bn ≠ 0) (h : divR an ad bn bd = (q1, q2, r)) :
    r = 16 ∨ (r = 0 ∧ mulR q1 q2 bn bd = (an, ad, 0)) := by
  have a1 := va.d1
  have b1 := vb.d1
  unfold divR at h
  rw [if_pos (va.both vb), if_neg hb] at h
  have fin : ∀ vq : VF q1 q2, an * (q2 * bd) = q1 * bn * ad → mulR q1 q2 bn bd = (an, ad, 0) := fun vq e => by
    have c1 := vq.d1
    unfold mulR
    rw [if_pos (vq.both vb), mulF_red vq vb]
    refine redF_of (Nat.mul_pos (by omega) (by omega)) va ?_
    rw [Int.natCast_mul, Int.natAbs_of_nonneg (by omega), Int.natAbs_of_nonneg (by omega)]
    exact e
  by_cases c : bn < 0
  · rw [if_pos c, mulF_red va (vb.over.1 c)] at h
    rcases redF_cases (an * -bd) (ad.natAbs * (-bn).natAbs) with e | ⟨n, d, e⟩
    · rw [e] at h; cases h; exact .inl rfl
    · have e' := e
      rw [e] at h; cases h
      obtain ⟨vq, k⟩ := redF_val (Nat.mul_pos (by omega) (by omega)) e' rfl
      rw [Int.natCast_mul, Int.natAbs_of_nonneg (by omega), Int.natAbs_of_nonneg (by omega)] at k
      exact .inr ⟨rfl, fin vq (by grind)⟩
  · rw [if_neg c, mulF_red va (vb.over.2 (by omega))] at h
    rcases redF_cases (an * bd) (ad.natAbs * bn.natAbs) with e | ⟨n, d, e⟩
    · rw [e] at h; cases h; exact .inl rfl
    · have e' := e
      rw [e] at h; cases h
      obtain ⟨vq, k⟩ := redF_val (Nat.mul_pos (by omega) (by omega)) e' rfl
      rw [Int.natCast_mul, Int.natAbs_of_nonneg (by omega), Int.natAbs_of_nonneg (by omega)] at k
      exact .inr ⟨rfl, fin vq (by grind)⟩
set_option maxRecDepth 100000 in
set_option maxHeartbeats 16000000 in
theorem walk (an ad bn bd : Int) (w : World) :
    Calls Try.prog 6 #[Fv an ad, Fv bn bd] w fun e w' => e = .returned (.bool true) ∧ Below w.heap.size w w' := by
  have V1 := Lib.hid (fun W => valid_calls an ad bn bd W)
  by_cases ck : errB an ad bn bd = 0
  rotate_left
  · have ck' : (errB an ad bn bd == 0) = false := by rw [beq_eq_false_iff_ne]; exact ck
    rw [ck'] at V1
    clear ck ck'
    go_enter Try.func6, Try.ntmps6
    go_wp2_with fail
    have BA : Hid (((w.alloc (.cells #[.int .i64 an, .int .i64 ad] 23)).alloc (.cells #[.int .i64 bn, .int .i64 bd] 23)).heap[w.heap.size]? = some (.cells #[.int .i64 an, .int .i64 ad] 23)) := Lib.hid (blk1 w _ _)
    have BB : Hid (((w.alloc (.cells #[.int .i64 an, .int .i64 ad] 23)).alloc (.cells #[.int .i64 bn, .int .i64 bd] 23)).heap[w.heap.size + 1]? = some (.cells #[.int .i64 bn, .int .i64 bd] 23)) := Lib.hid (blk2 w _ _)
    have NN : Hid (Below w.heap.size w ((w.alloc (.cells #[.int .i64 an, .int .i64 ad] 23)).alloc (.cells #[.int .i64 bn, .int .i64 bd] 23))) := Lib.hid (Bal (Bal (Below.refl _ _) _) _)
    generalize (w.alloc (.cells #[.int .i64 an, .int .i64 ad] 23)).alloc (.cells #[.int .i64 bn, .int .i64 bd] 23) = W0 at *
    refine (V1.out _).mono ?_
    rintro e w1 ⟨rfl, hb⟩
    replace BA := Lib.hid (blk_next hb BA.out)
    replace BB := Lib.hid (blk_next hb BB.out)
    replace NN := Lib.hid (Bgo NN.out hb)
    clear hb
    go_wp2_with fail
    refine (alive_calls _).mono ?_
    rintro e w2 ⟨rfl, hb⟩
    replace BA := Lib.hid (blk_next hb BA.out)
    replace BB := Lib.hid (blk_next hb BB.out)
    replace NN := Lib.hid (Bgo NN.out hb)
    clear hb
    go_wp2_with fail
    go_ret
    exact ⟨rfl, NN.out⟩
  · obtain ⟨va, vb⟩ := errB_ok ck
    rw [show (errB an ad bn bd == 0) = true by rw [ck]; rfl] at V1
    have A1 := Lib.hid (fun W => add_calls an ad bn bd W)
    have A2 := Lib.hid (fun W => add_calls bn bd an ad W)
    rw [add_comm' va vb] at A2
    have M1 := Lib.hid (fun W => mul_calls an ad bn bd W)
    have M2 := Lib.hid (fun W => mul_calls bn bd an ad W)
    rw [mul_comm' va vb] at M2
    have S1 := Lib.hid (fun W => sub_calls an ad bn bd W)
    have C1 := Lib.hid (fun W => cmp_calls an ad bn bd W)
    rw [ck] at C1
    have D1 := Lib.hid (fun W => div_calls an ad bn bd W)
    have CZ := cmp_zero va vb
    have SB := Lib.hid (fun (k1 k2 : Int) h => sub_back (k1 := k1) (k2 := k2) va vb h)
    have DB := Lib.hid (fun (q1 q2 r : Int) hb h => div_back (q1 := q1) (q2 := q2) (r := r) va vb hb h)
    have DZ := Lib.hid (fun (h : bn = 0) => show divR an ad bn bd = (0, 0, 18) by subst h; exact div_zero va vb)
    clear va vb ck
    obtain ⟨⟨a1, a2, a3⟩, ha⟩ : ∃ r, addR an ad bn bd = r := ⟨_, rfl⟩
    rw [ha] at A1 A2
    obtain ⟨⟨m1, m2, m3⟩, hm⟩ : ∃ r, mulR an ad bn bd = r := ⟨_, rfl⟩
    rw [hm] at M1 M2
    obtain ⟨⟨k1, k2, k3⟩, hk⟩ : ∃ r, subR an ad bn bd = r := ⟨_, rfl⟩
    rw [hk] at S1
    obtain ⟨⟨q1, q2, q3⟩, hq⟩ : ∃ r, divR an ad bn bd = r := ⟨_, rfl⟩
    rw [hq] at D1
    clear ha hm
    have HK := Lib.hid hk
    have HQ := Lib.hid hq
    clear hk hq
    obtain ⟨cr, hcr⟩ : ∃ z, cmpR an ad bn bd = z := ⟨_, rfl⟩
    have HC := Lib.hid hcr
    rw [hcr] at C1 CZ
    clear hcr
    go_enter Try.func6, Try.ntmps6
    go_wp2_with fail
    have BA : Hid (((w.alloc (.cells #[.int .i64 an, .int .i64 ad] 23)).alloc (.cells #[.int .i64 bn, .int .i64 bd] 23)).heap[w.heap.size]? = some (.cells #[.int .i64 an, .int .i64 ad] 23)) := Lib.hid (blk1 w _ _)
    have BB : Hid (((w.alloc (.cells #[.int .i64 an, .int .i64 ad] 23)).alloc (.cells #[.int .i64 bn, .int .i64 bd] 23)).heap[w.heap.size + 1]? = some (.cells #[.int .i64 bn, .int .i64 bd] 23)) := Lib.hid (blk2 w _ _)
    have NN : Hid (Below w.heap.size w ((w.alloc (.cells #[.int .i64 an, .int .i64 ad] 23)).alloc (.cells #[.int .i64 bn, .int .i64 bd] 23))) := Lib.hid (Bal (Bal (Below.refl _ _) _) _)
    generalize (w.alloc (.cells #[.int .i64 an, .int .i64 ad] 23)).alloc (.cells #[.int .i64 bn, .int .i64 bd] 23) = W0 at *
    refine (V1.out _).mono ?_
    rintro e w1 ⟨rfl, hb⟩
    replace BA := Lib.hid (blk_next hb BA.out)
    replace BB := Lib.hid (blk_next hb BB.out)
    replace NN := Lib.hid (Bgo NN.out hb)
    clear hb
    have lBA := blk_lt BA.out
    have cBA0 := blk_cell BA.out 0 _ rfl
    have cBA1 := blk_cell BA.out 1 _ rfl
    have lBB := blk_lt BB.out
    have cBB0 := blk_cell BB.out 0 _ rfl
    have cBB1 := blk_cell BB.out 1 _ rfl
    go_wp2_with fail
    refine (A1.out _).mono ?_
    rintro e w2 ⟨rfl, hb⟩
    clear lBA cBA0 cBA1 lBB cBB0 cBB1
    have HB : Hid (Below w1.heap.size w1 (w2.alloc (.cells #[.int .i64 a1, .int .i64 a2] 23))) := Lib.hid (Bal hb _)
    have yBA := blk_next hb BA.out
    have lBA := blk_lt yBA
    have cBA0 := blk_cell yBA 0 _ rfl
    have cBA1 := blk_cell yBA 1 _ rfl
    clear yBA
    have yBB := blk_next hb BB.out
    have lBB := blk_lt yBB
    have cBB0 := blk_cell yBB 0 _ rfl
    have cBB1 := blk_cell yBB 1 _ rfl
    clear yBB
    clear hb
    replace BA := Lib.hid (blk_next HB.out BA.out)
    replace BB := Lib.hid (blk_next HB.out BB.out)
    replace NN := Lib.hid (Bgo NN.out HB.out)
    have Bc : Hid ((w2.alloc (.cells #[.int .i64 a1, .int .i64 a2] 23)).heap[w2.heap.size]? = some (.cells #[.int .i64 a1, .int .i64 a2] 23)) := Lib.hid (blk_new w2 _)
    clear HB
    go_wp2_with fail
    clear lBA cBA0 cBA1 lBB cBB0 cBB1
    generalize w2.alloc (.cells #[.int .i64 a1, .int .i64 a2] 23) = W2 at *
    generalize w2.heap.size = gc at *
    refine (A2.out _).mono ?_
    rintro e w3 ⟨rfl, hb⟩
    have HB : Hid (Below W2.heap.size W2 (w3.alloc (.cells #[.int .i64 a1, .int .i64 a2] 23))) := Lib.hid (Bal hb _)
    have yBA := blk_next hb BA.out
    have lBA := blk_lt yBA
    have cBA0 := blk_cell yBA 0 _ rfl
    have cBA1 := blk_cell yBA 1 _ rfl
    clear yBA
    have yBB := blk_next hb BB.out
    have lBB := blk_lt yBB
    have cBB0 := blk_cell yBB 0 _ rfl
    have cBB1 := blk_cell yBB 1 _ rfl
    clear yBB
    clear hb
    replace BA := Lib.hid (blk_next HB.out BA.out)
    replace BB := Lib.hid (blk_next HB.out BB.out)
    replace Bc := Lib.hid (blk_next HB.out Bc.out)
    replace NN := Lib.hid (Bgo NN.out HB.out)
    have Bd : Hid ((w3.alloc (.cells #[.int .i64 a1, .int .i64 a2] 23)).heap[w3.heap.size]? = some (.cells #[.int .i64 a1, .int .i64 a2] 23)) := Lib.hid (blk_new w3 _)
    clear HB
    go_wp2_with fail
    clear lBA cBA0 cBA1 lBB cBB0 cBB1
    generalize w3.alloc (.cells #[.int .i64 a1, .int .i64 a2] 23) = W3 at *
    generalize w3.heap.size = gd at *
    refine (M1.out _).mono ?_
    rintro e w4 ⟨rfl, hb⟩
    have HB : Hid (Below W3.heap.size W3 (w4.alloc (.cells #[.int .i64 m1, .int .i64 m2] 23))) := Lib.hid (Bal hb _)
    have yBA := blk_next hb BA.out
    have lBA := blk_lt yBA
    have cBA0 := blk_cell yBA 0 _ rfl
    have cBA1 := blk_cell yBA 1 _ rfl
    clear yBA
    have yBB := blk_next hb BB.out
    have lBB := blk_lt yBB
    have cBB0 := blk_cell yBB 0 _ rfl
    have cBB1 := blk_cell yBB 1 _ rfl
    clear yBB
    clear hb
    replace BA := Lib.hid (blk_next HB.out BA.out)
    replace BB := Lib.hid (blk_next HB.out BB.out)
    replace Bc := Lib.hid (blk_next HB.out Bc.out)
    replace Bd := Lib.hid (blk_next HB.out Bd.out)
    replace NN := Lib.hid (Bgo NN.out HB.out)
    have Bg : Hid ((w4.alloc (.cells #[.int .i64 m1, .int .i64 m2] 23)).heap[w4.heap.size]? = some (.cells #[.int .i64 m1, .int .i64 m2] 23)) := Lib.hid (blk_new w4 _)
    clear HB
    go_wp2_with fail
    clear lBA cBA0 cBA1 lBB cBB0 cBB1
    generalize w4.alloc (.cells #[.int .i64 m1, .int .i64 m2] 23) = W4 at *
    generalize w4.heap.size = gg at *
    refine (M2.out _).mono ?_
    rintro e w5 ⟨rfl, hb⟩
    have HB : Hid (Below W4.heap.size W4 (w5.alloc (.cells #[.int .i64 m1, .int .i64 m2] 23))) := Lib.hid (Bal hb _)
    have yBA := blk_next hb BA.out
    have lBA := blk_lt yBA
    have cBA0 := blk_cell yBA 0 _ rfl
    have cBA1 := blk_cell yBA 1 _ rfl
    clear yBA
    have yBB := blk_next hb BB.out
    have lBB := blk_lt yBB
    have cBB0 := blk_cell yBB 0 _ rfl
    have cBB1 := blk_cell yBB 1 _ rfl
    clear yBB
    clear hb
    replace BA := Lib.hid (blk_next HB.out BA.out)
    replace BB := Lib.hid (blk_next HB.out BB.out)
    replace Bc := Lib.hid (blk_next HB.out Bc.out)
    replace Bd := Lib.hid (blk_next HB.out Bd.out)
    replace Bg := Lib.hid (blk_next HB.out Bg.out)
    replace NN := Lib.hid (Bgo NN.out HB.out)
    have Bi : Hid ((w5.alloc (.cells #[.int .i64 m1, .int .i64 m2] 23)).heap[w5.heap.size]? = some (.cells #[.int .i64 m1, .int .i64 m2] 23)) := Lib.hid (blk_new w5 _)
    clear HB
    go_wp2_with fail
    clear lBA cBA0 cBA1 lBB cBB0 cBB1
    generalize w5.alloc (.cells #[.int .i64 m1, .int .i64 m2] 23) = W5 at *
    generalize w5.heap.size = gi at *
    refine (S1.out _).mono ?_
    rintro e w6 ⟨rfl, hb⟩
    have HB : Hid (Below W5.heap.size W5 (w6.alloc (.cells #[.int .i64 k1, .int .i64 k2] 23))) := Lib.hid (Bal hb _)
    have yBA := blk_next hb BA.out
    have lBA := blk_lt yBA
    have cBA0 := blk_cell yBA 0 _ rfl
    have cBA1 := blk_cell yBA 1 _ rfl
    clear yBA
    have yBB := blk_next hb BB.out
    have lBB := blk_lt yBB
    have cBB0 := blk_cell yBB 0 _ rfl
    have cBB1 := blk_cell yBB 1 _ rfl
    clear yBB
    clear hb
    replace BA := Lib.hid (blk_next HB.out BA.out)
    replace BB := Lib.hid (blk_next HB.out BB.out)
    replace Bc := Lib.hid (blk_next HB.out Bc.out)
    replace Bd := Lib.hid (blk_next HB.out Bd.out)
    replace Bg := Lib.hid (blk_next HB.out Bg.out)
    replace Bi := Lib.hid (blk_next HB.out Bi.out)
    replace NN := Lib.hid (Bgo NN.out HB.out)
    have Bk : Hid ((w6.alloc (.cells #[.int .i64 k1, .int .i64 k2] 23)).heap[w6.heap.size]? = some (.cells #[.int .i64 k1, .int .i64 k2] 23)) := Lib.hid (blk_new w6 _)
    clear HB
    go_wp2_with fail
    clear lBA cBA0 cBA1 lBB cBB0 cBB1
    generalize w6.alloc (.cells #[.int .i64 k1, .int .i64 k2] 23) = W6 at *
    generalize w6.heap.size = gk at *
    by_cases ee : an = bn
    · by_cases ed : ad = bd
      · have cz : (cr == 0) = true := by rw [← CZ, ee, ed]; simp
        clear CZ
        subst ee ed
        by_cases kz : k3 = 0
        · subst kz
          obtain ⟨e1, e2, e3⟩ := SB.out _ _ HK.out
          rw [HC.out] at e2 e3
          have AB := Lib.hid (fun W => add_calls k1 k2 an ad W)
          rw [e1] at AB
          clear e1
          by_cases bz : an = 0
          · obtain ⟨rfl, rfl, rfl⟩ : 0 = q1 ∧ 0 = q2 ∧ 18 = q3 := by
              have := DZ.out bz
              rw [HQ.out] at this
              simp only [Prod.mk.injEq] at this
              exact ⟨this.1.symm, this.2.1.symm, this.2.2.symm⟩
            have bz' : (an == 0) = true := by rw [bz]; rfl
            clear bz DZ DB HQ HK SB HC
            refine (C1.out _).mono ?_
            rintro e w7 ⟨rfl, hb⟩
            replace BA := Lib.hid (blk_next hb BA.out)
            replace BB := Lib.hid (blk_next hb BB.out)
            replace Bc := Lib.hid (blk_next hb Bc.out)
            replace Bd := Lib.hid (blk_next hb Bd.out)
            replace Bg := Lib.hid (blk_next hb Bg.out)
            replace Bi := Lib.hid (blk_next hb Bi.out)
            replace Bk := Lib.hid (blk_next hb Bk.out)
            replace NN := Lib.hid (Bgo NN.out hb)
            clear hb
            have lBA := blk_lt BA.out
            have cBA0 := blk_cell BA.out 0 _ rfl
            have cBA1 := blk_cell BA.out 1 _ rfl
            have lBB := blk_lt BB.out
            have cBB0 := blk_cell BB.out 0 _ rfl
            have cBB1 := blk_cell BB.out 1 _ rfl
            have lBc := blk_lt Bc.out
            have cBc0 := blk_cell Bc.out 0 _ rfl
            have cBc1 := blk_cell Bc.out 1 _ rfl
            have lBd := blk_lt Bd.out
            have cBd0 := blk_cell Bd.out 0 _ rfl
            have cBd1 := blk_cell Bd.out 1 _ rfl
            have lBg := blk_lt Bg.out
            have cBg0 := blk_cell Bg.out 0 _ rfl
            have cBg1 := blk_cell Bg.out 1 _ rfl
            have lBi := blk_lt Bi.out
            have cBi0 := blk_cell Bi.out 0 _ rfl
            have cBi1 := blk_cell Bi.out 1 _ rfl
            have lBk := blk_lt Bk.out
            have cBk0 := blk_cell Bk.out 0 _ rfl
            have cBk1 := blk_cell Bk.out 1 _ rfl
            go_wp2_with fail
            refine (AB.out _).mono ?_
            rintro e w8 ⟨rfl, hb⟩
            clear lBA cBA0 cBA1 lBB cBB0 cBB1 lBc cBc0 cBc1 lBd cBd0 cBd1 lBg cBg0 cBg1 lBi cBi0 cBi1 lBk cBk0 cBk1
            have HB : Hid (Below w7.heap.size w7 (w8.alloc (.cells #[.int .i64 an, .int .i64 ad] 23))) := Lib.hid (Bal hb _)
            have yBA := blk_next hb BA.out
            have lBA := blk_lt yBA
            have cBA0 := blk_cell yBA 0 _ rfl
            have cBA1 := blk_cell yBA 1 _ rfl
            clear yBA
            have yBB := blk_next hb BB.out
            have lBB := blk_lt yBB
            have cBB0 := blk_cell yBB 0 _ rfl
            have cBB1 := blk_cell yBB 1 _ rfl
            clear yBB
            have yBk := blk_next hb Bk.out
            have lBk := blk_lt yBk
            have cBk0 := blk_cell yBk 0 _ rfl
            have cBk1 := blk_cell yBk 1 _ rfl
            clear yBk
            clear hb
            replace BA := Lib.hid (blk_next HB.out BA.out)
            replace BB := Lib.hid (blk_next HB.out BB.out)
            replace Bc := Lib.hid (blk_next HB.out Bc.out)
            replace Bd := Lib.hid (blk_next HB.out Bd.out)
            replace Bg := Lib.hid (blk_next HB.out Bg.out)
            replace Bi := Lib.hid (blk_next HB.out Bi.out)
            replace Bk := Lib.hid (blk_next HB.out Bk.out)
            replace NN := Lib.hid (Bgo NN.out HB.out)
            have Bo : Hid ((w8.alloc (.cells #[.int .i64 an, .int .i64 ad] 23)).heap[w8.heap.size]? = some (.cells #[.int .i64 an, .int .i64 ad] 23)) := Lib.hid (blk_new w8 _)
            clear HB
            go_wp2_with fail
            clear lBA cBA0 cBA1 lBB cBB0 cBB1 lBk cBk0 cBk1
            generalize w8.alloc (.cells #[.int .i64 an, .int .i64 ad] 23) = W8 at *
            generalize w8.heap.size = go at *
            refine (D1.out _).mono ?_
            rintro e w9 ⟨rfl, hb⟩
            have HB : Hid (Below W8.heap.size W8 (w9.alloc (.cells #[.int .i64 0, .int .i64 0] 23))) := Lib.hid (Bal hb _)
            have yBB := blk_next hb BB.out
            have lBB := blk_lt yBB
            have cBB0 := blk_cell yBB 0 _ rfl
            have cBB1 := blk_cell yBB 1 _ rfl
            clear yBB
            clear hb
            replace BA := Lib.hid (blk_next HB.out BA.out)
            replace BB := Lib.hid (blk_next HB.out BB.out)
            replace Bc := Lib.hid (blk_next HB.out Bc.out)
            replace Bd := Lib.hid (blk_next HB.out Bd.out)
            replace Bg := Lib.hid (blk_next HB.out Bg.out)
            replace Bi := Lib.hid (blk_next HB.out Bi.out)
            replace Bk := Lib.hid (blk_next HB.out Bk.out)
            replace Bo := Lib.hid (blk_next HB.out Bo.out)
            replace NN := Lib.hid (Bgo NN.out HB.out)
            have Bq : Hid ((w9.alloc (.cells #[.int .i64 0, .int .i64 0] 23)).heap[w9.heap.size]? = some (.cells #[.int .i64 0, .int .i64 0] 23)) := Lib.hid (blk_new w9 _)
            clear HB
            go_wp2_with fail
            clear lBB cBB0 cBB1
            generalize w9.alloc (.cells #[.int .i64 0, .int .i64 0] 23) = W9 at *
            generalize w9.heap.size = gq at *
            refine (alive_calls _).mono ?_
            rintro e w10 ⟨rfl, hb⟩
            replace BA := Lib.hid (blk_next hb BA.out)
            replace BB := Lib.hid (blk_next hb BB.out)
            replace Bc := Lib.hid (blk_next hb Bc.out)
            replace Bd := Lib.hid (blk_next hb Bd.out)
            replace Bg := Lib.hid (blk_next hb Bg.out)
            replace Bi := Lib.hid (blk_next hb Bi.out)
            replace Bk := Lib.hid (blk_next hb Bk.out)
            replace Bo := Lib.hid (blk_next hb Bo.out)
            replace Bq := Lib.hid (blk_next hb Bq.out)
            replace NN := Lib.hid (Bgo NN.out hb)
            clear hb
            go_wp2_with fail
            go_ret
            exact ⟨rfl, NN.out⟩
          have bz' : (an == 0) = false := by rw [beq_eq_false_iff_ne]; exact bz
          have DR := DB.out _ _ _ bz HQ.out
          clear DZ DB HQ HK SB HC bz
          rcases DR with rfl | ⟨rfl, mb⟩
          · skip
            refine (C1.out _).mono ?_
            rintro e w7 ⟨rfl, hb⟩
            replace BA := Lib.hid (blk_next hb BA.out)
            replace BB := Lib.hid (blk_next hb BB.out)
            replace Bc := Lib.hid (blk_next hb Bc.out)
            replace Bd := Lib.hid (blk_next hb Bd.out)
            replace Bg := Lib.hid (blk_next hb Bg.out)
            replace Bi := Lib.hid (blk_next hb Bi.out)
            replace Bk := Lib.hid (blk_next hb Bk.out)
            replace NN := Lib.hid (Bgo NN.out hb)
            clear hb
            have lBA := blk_lt BA.out
            have cBA0 := blk_cell BA.out 0 _ rfl
            have cBA1 := blk_cell BA.out 1 _ rfl
            have lBB := blk_lt BB.out
            have cBB0 := blk_cell BB.out 0 _ rfl
            have cBB1 := blk_cell BB.out 1 _ rfl
            have lBc := blk_lt Bc.out
            have cBc0 := blk_cell Bc.out 0 _ rfl
            have cBc1 := blk_cell Bc.out 1 _ rfl
            have lBd := blk_lt Bd.out
            have cBd0 := blk_cell Bd.out 0 _ rfl
            have cBd1 := blk_cell Bd.out 1 _ rfl
            have lBg := blk_lt Bg.out
            have cBg0 := blk_cell Bg.out 0 _ rfl
            have cBg1 := blk_cell Bg.out 1 _ rfl
            have lBi := blk_lt Bi.out
            have cBi0 := blk_cell Bi.out 0 _ rfl
            have cBi1 := blk_cell Bi.out 1 _ rfl
            have lBk := blk_lt Bk.out
            have cBk0 := blk_cell Bk.out 0 _ rfl
            have cBk1 := blk_cell Bk.out 1 _ rfl
            go_wp2_with fail
            refine (AB.out _).mono ?_
            rintro e w8 ⟨rfl, hb⟩
            clear lBA cBA0 cBA1 lBB cBB0 cBB1 lBc cBc0 cBc1 lBd cBd0 cBd1 lBg cBg0 cBg1 lBi cBi0 cBi1 lBk cBk0 cBk1
            have HB : Hid (Below w7.heap.size w7 (w8.alloc (.cells #[.int .i64 an, .int .i64 ad] 23))) := Lib.hid (Bal hb _)
            have yBA := blk_next hb BA.out
            have lBA := blk_lt yBA
            have cBA0 := blk_cell yBA 0 _ rfl
            have cBA1 := blk_cell yBA 1 _ rfl
            clear yBA
            have yBB := blk_next hb BB.out
            have lBB := blk_lt yBB
            have cBB0 := blk_cell yBB 0 _ rfl
            have cBB1 := blk_cell yBB 1 _ rfl
            clear yBB
            have yBk := blk_next hb Bk.out
            have lBk := blk_lt yBk
            have cBk0 := blk_cell yBk 0 _ rfl
            have cBk1 := blk_cell yBk 1 _ rfl
            clear yBk
            clear hb
            replace BA := Lib.hid (blk_next HB.out BA.out)
            replace BB := Lib.hid (blk_next HB.out BB.out)
            replace Bc := Lib.hid (blk_next HB.out Bc.out)
            replace Bd := Lib.hid (blk_next HB.out Bd.out)
            replace Bg := Lib.hid (blk_next HB.out Bg.out)
            replace Bi := Lib.hid (blk_next HB.out Bi.out)
            replace Bk := Lib.hid (blk_next HB.out Bk.out)
            replace NN := Lib.hid (Bgo NN.out HB.out)
            have Bo : Hid ((w8.alloc (.cells #[.int .i64 an, .int .i64 ad] 23)).heap[w8.heap.size]? = some (.cells #[.int .i64 an, .int .i64 ad] 23)) := Lib.hid (blk_new w8 _)
            clear HB
            go_wp2_with fail
            clear lBA cBA0 cBA1 lBB cBB0 cBB1 lBk cBk0 cBk1
            generalize w8.alloc (.cells #[.int .i64 an, .int .i64 ad] 23) = W8 at *
            generalize w8.heap.size = go at *
            refine (D1.out _).mono ?_
            rintro e w9 ⟨rfl, hb⟩
            have HB : Hid (Below W8.heap.size W8 (w9.alloc (.cells #[.int .i64 q1, .int .i64 q2] 23))) := Lib.hid (Bal hb _)
            have yBB := blk_next hb BB.out
            have lBB := blk_lt yBB
            have cBB0 := blk_cell yBB 0 _ rfl
            have cBB1 := blk_cell yBB 1 _ rfl
            clear yBB
            clear hb
            replace BA := Lib.hid (blk_next HB.out BA.out)
            replace BB := Lib.hid (blk_next HB.out BB.out)
            replace Bc := Lib.hid (blk_next HB.out Bc.out)
            replace Bd := Lib.hid (blk_next HB.out Bd.out)
            replace Bg := Lib.hid (blk_next HB.out Bg.out)
            replace Bi := Lib.hid (blk_next HB.out Bi.out)
            replace Bk := Lib.hid (blk_next HB.out Bk.out)
            replace Bo := Lib.hid (blk_next HB.out Bo.out)
            replace NN := Lib.hid (Bgo NN.out HB.out)
            have Bq : Hid ((w9.alloc (.cells #[.int .i64 q1, .int .i64 q2] 23)).heap[w9.heap.size]? = some (.cells #[.int .i64 q1, .int .i64 q2] 23)) := Lib.hid (blk_new w9 _)
            clear HB
            go_wp2_with fail
            clear lBB cBB0 cBB1
            generalize w9.alloc (.cells #[.int .i64 q1, .int .i64 q2] 23) = W9 at *
            generalize w9.heap.size = gq at *
            refine (alive_calls _).mono ?_
            rintro e w10 ⟨rfl, hb⟩
            replace BA := Lib.hid (blk_next hb BA.out)
            replace BB := Lib.hid (blk_next hb BB.out)
            replace Bc := Lib.hid (blk_next hb Bc.out)
            replace Bd := Lib.hid (blk_next hb Bd.out)
            replace Bg := Lib.hid (blk_next hb Bg.out)
            replace Bi := Lib.hid (blk_next hb Bi.out)
            replace Bk := Lib.hid (blk_next hb Bk.out)
            replace Bo := Lib.hid (blk_next hb Bo.out)
            replace Bq := Lib.hid (blk_next hb Bq.out)
            replace NN := Lib.hid (Bgo NN.out hb)
            clear hb
            go_wp2_with fail
            go_ret
            exact ⟨rfl, NN.out⟩
          · have MB := Lib.hid (fun W => mul_calls q1 q2 an ad W)
            rw [mb] at MB
            clear mb
            refine (C1.out _).mono ?_
            rintro e w7 ⟨rfl, hb⟩
            replace BA := Lib.hid (blk_next hb BA.out)
            replace BB := Lib.hid (blk_next hb BB.out)
            replace Bc := Lib.hid (blk_next hb Bc.out)
            replace Bd := Lib.hid (blk_next hb Bd.out)
            replace Bg := Lib.hid (blk_next hb Bg.out)
            replace Bi := Lib.hid (blk_next hb Bi.out)
            replace Bk := Lib.hid (blk_next hb Bk.out)
            replace NN := Lib.hid (Bgo NN.out hb)
            clear hb
            have lBA := blk_lt BA.out
            have cBA0 := blk_cell BA.out 0 _ rfl
            have cBA1 := blk_cell BA.out 1 _ rfl
            have lBB := blk_lt BB.out
            have cBB0 := blk_cell BB.out 0 _ rfl
            have cBB1 := blk_cell BB.out 1 _ rfl
            have lBc := blk_lt Bc.out
            have cBc0 := blk_cell Bc.out 0 _ rfl
            have cBc1 := blk_cell Bc.out 1 _ rfl
            have lBd := blk_lt Bd.out
            have cBd0 := blk_cell Bd.out 0 _ rfl
            have cBd1 := blk_cell Bd.out 1 _ rfl
            have lBg := blk_lt Bg.out
            have cBg0 := blk_cell Bg.out 0 _ rfl
            have cBg1 := blk_cell Bg.out 1 _ rfl
            have lBi := blk_lt Bi.out
            have cBi0 := blk_cell Bi.out 0 _ rfl
            have cBi1 := blk_cell Bi.out 1 _ rfl
            have lBk := blk_lt Bk.out
            have cBk0 := blk_cell Bk.out 0 _ rfl
            have cBk1 := blk_cell Bk.out 1 _ rfl
            go_wp2_with fail
            refine (AB.out _).mono ?_
            rintro e w8 ⟨rfl, hb⟩
            clear lBA cBA0 cBA1 lBB cBB0 cBB1 lBc cBc0 cBc1 lBd cBd0 cBd1 lBg cBg0 cBg1 lBi cBi0 cBi1 lBk cBk0 cBk1
            have HB : Hid (Below w7.heap.size w7 (w8.alloc (.cells #[.int .i64 an, .int .i64 ad] 23))) := Lib.hid (Bal hb _)
            have yBA := blk_next hb BA.out
            have lBA := blk_lt yBA
            have cBA0 := blk_cell yBA 0 _ rfl
            have cBA1 := blk_cell yBA 1 _ rfl
            clear yBA
            have yBB := blk_next hb BB.out
            have lBB := blk_lt yBB
            have cBB0 := blk_cell yBB 0 _ rfl
            have cBB1 := blk_cell yBB 1 _ rfl
            clear yBB
            have yBk := blk_next hb Bk.out
            have lBk := blk_lt yBk
            have cBk0 := blk_cell yBk 0 _ rfl
            have cBk1 := blk_cell yBk 1 _ rfl
            clear yBk
            clear hb
            replace BA := Lib.hid (blk_next HB.out BA.out)
            replace BB := Lib.hid (blk_next HB.out BB.out)
            replace Bc := Lib.hid (blk_next HB.out Bc.out)
            replace Bd := Lib.hid (blk_next HB.out Bd.out)
            replace Bg := Lib.hid (blk_next HB.out Bg.out)
            replace Bi := Lib.hid (blk_next HB.out Bi.out)
            replace Bk := Lib.hid (blk_next HB.out Bk.out)
            replace NN := Lib.hid (Bgo NN.out HB.out)
            have Bo : Hid ((w8.alloc (.cells #[.int .i64 an, .int .i64 ad] 23)).heap[w8.heap.size]? = some (.cells #[.int .i64 an, .int .i64 ad] 23)) := Lib.hid (blk_new w8 _)
            clear HB
            go_wp2_with fail
            clear lBA cBA0 cBA1 lBB cBB0 cBB1 lBk cBk0 cBk1
            generalize w8.alloc (.cells #[.int .i64 an, .int .i64 ad] 23) = W8 at *
            generalize w8.heap.size = go at *
            refine (D1.out _).mono ?_
            rintro e w9 ⟨rfl, hb⟩
            have HB : Hid (Below W8.heap.size W8 (w9.alloc (.cells #[.int .i64 q1, .int .i64 q2] 23))) := Lib.hid (Bal hb _)
            have yBB := blk_next hb BB.out
            have lBB := blk_lt yBB
            have cBB0 := blk_cell yBB 0 _ rfl
            have cBB1 := blk_cell yBB 1 _ rfl
            clear yBB
            clear hb
            replace BA := Lib.hid (blk_next HB.out BA.out)
            replace BB := Lib.hid (blk_next HB.out BB.out)
            replace Bc := Lib.hid (blk_next HB.out Bc.out)
            replace Bd := Lib.hid (blk_next HB.out Bd.out)
            replace Bg := Lib.hid (blk_next HB.out Bg.out)
            replace Bi := Lib.hid (blk_next HB.out Bi.out)
            replace Bk := Lib.hid (blk_next HB.out Bk.out)
            replace Bo := Lib.hid (blk_next HB.out Bo.out)
            replace NN := Lib.hid (Bgo NN.out HB.out)
            have Bq : Hid ((w9.alloc (.cells #[.int .i64 q1, .int .i64 q2] 23)).heap[w9.heap.size]? = some (.cells #[.int .i64 q1, .int .i64 q2] 23)) := Lib.hid (blk_new w9 _)
            clear HB
            go_wp2_with fail
            clear lBB cBB0 cBB1
            generalize w9.alloc (.cells #[.int .i64 q1, .int .i64 q2] 23) = W9 at *
            generalize w9.heap.size = gq at *
            refine (MB.out _).mono ?_
            rintro e w10 ⟨rfl, hb⟩
            have HB : Hid (Below W9.heap.size W9 (w10.alloc (.cells #[.int .i64 an, .int .i64 ad] 23))) := Lib.hid (Bal hb _)
            have yBA := blk_next hb BA.out
            have lBA := blk_lt yBA
            have cBA0 := blk_cell yBA 0 _ rfl
            have cBA1 := blk_cell yBA 1 _ rfl
            clear yBA
            clear hb
            replace BA := Lib.hid (blk_next HB.out BA.out)
            replace BB := Lib.hid (blk_next HB.out BB.out)
            replace Bc := Lib.hid (blk_next HB.out Bc.out)
            replace Bd := Lib.hid (blk_next HB.out Bd.out)
            replace Bg := Lib.hid (blk_next HB.out Bg.out)
            replace Bi := Lib.hid (blk_next HB.out Bi.out)
            replace Bk := Lib.hid (blk_next HB.out Bk.out)
            replace Bo := Lib.hid (blk_next HB.out Bo.out)
            replace Bq := Lib.hid (blk_next HB.out Bq.out)
            replace NN := Lib.hid (Bgo NN.out HB.out)
            have Bs : Hid ((w10.alloc (.cells #[.int .i64 an, .int .i64 ad] 23)).heap[w10.heap.size]? = some (.cells #[.int .i64 an, .int .i64 ad] 23)) := Lib.hid (blk_new w10 _)
            clear HB
            go_wp2_with fail
            clear lBA cBA0 cBA1
            generalize w10.alloc (.cells #[.int .i64 an, .int .i64 ad] 23) = W10 at *
            generalize w10.heap.size = gs at *
            refine (alive_calls _).mono ?_
            rintro e w11 ⟨rfl, hb⟩
            replace BA := Lib.hid (blk_next hb BA.out)
            replace BB := Lib.hid (blk_next hb BB.out)
            replace Bc := Lib.hid (blk_next hb Bc.out)
            replace Bd := Lib.hid (blk_next hb Bd.out)
            replace Bg := Lib.hid (blk_next hb Bg.out)
            replace Bi := Lib.hid (blk_next hb Bi.out)
            replace Bk := Lib.hid (blk_next hb Bk.out)
            replace Bo := Lib.hid (blk_next hb Bo.out)
            replace Bq := Lib.hid (blk_next hb Bq.out)
            replace Bs := Lib.hid (blk_next hb Bs.out)
            replace NN := Lib.hid (Bgo NN.out hb)
            clear hb
            go_wp2_with fail
            go_ret
            exact ⟨rfl, NN.out⟩
        · have kz' : (k3 == 0) = false := by rw [beq_eq_false_iff_ne]; exact kz
          clear kz
          by_cases bz : an = 0
          · obtain ⟨rfl, rfl, rfl⟩ : 0 = q1 ∧ 0 = q2 ∧ 18 = q3 := by
              have := DZ.out bz
              rw [HQ.out] at this
              simp only [Prod.mk.injEq] at this
              exact ⟨this.1.symm, this.2.1.symm, this.2.2.symm⟩
            have bz' : (an == 0) = true := by rw [bz]; rfl
            clear bz DZ DB HQ HK SB HC
            refine (C1.out _).mono ?_
            rintro e w7 ⟨rfl, hb⟩
            replace BA := Lib.hid (blk_next hb BA.out)
            replace BB := Lib.hid (blk_next hb BB.out)
            replace Bc := Lib.hid (blk_next hb Bc.out)
            replace Bd := Lib.hid (blk_next hb Bd.out)
            replace Bg := Lib.hid (blk_next hb Bg.out)
            replace Bi := Lib.hid (blk_next hb Bi.out)
            replace Bk := Lib.hid (blk_next hb Bk.out)
            replace NN := Lib.hid (Bgo NN.out hb)
            clear hb
            have lBA := blk_lt BA.out
            have cBA0 := blk_cell BA.out 0 _ rfl
            have cBA1 := blk_cell BA.out 1 _ rfl
            have lBB := blk_lt BB.out
            have cBB0 := blk_cell BB.out 0 _ rfl
            have cBB1 := blk_cell BB.out 1 _ rfl
            have lBc := blk_lt Bc.out
            have cBc0 := blk_cell Bc.out 0 _ rfl
            have cBc1 := blk_cell Bc.out 1 _ rfl
            have lBd := blk_lt Bd.out
            have cBd0 := blk_cell Bd.out 0 _ rfl
            have cBd1 := blk_cell Bd.out 1 _ rfl
            have lBg := blk_lt Bg.out
            have cBg0 := blk_cell Bg.out 0 _ rfl
            have cBg1 := blk_cell Bg.out 1 _ rfl
            have lBi := blk_lt Bi.out
            have cBi0 := blk_cell Bi.out 0 _ rfl
            have cBi1 := blk_cell Bi.out 1 _ rfl
            have lBk := blk_lt Bk.out
            have cBk0 := blk_cell Bk.out 0 _ rfl
            have cBk1 := blk_cell Bk.out 1 _ rfl
            go_wp2_with fail
            refine (D1.out _).mono ?_
            rintro e w8 ⟨rfl, hb⟩
            clear lBA cBA0 cBA1 lBB cBB0 cBB1 lBc cBc0 cBc1 lBd cBd0 cBd1 lBg cBg0 cBg1 lBi cBi0 cBi1 lBk cBk0 cBk1
            have HB : Hid (Below w7.heap.size w7 (w8.alloc (.cells #[.int .i64 0, .int .i64 0] 23))) := Lib.hid (Bal hb _)
            have yBB := blk_next hb BB.out
            have lBB := blk_lt yBB
            have cBB0 := blk_cell yBB 0 _ rfl
            have cBB1 := blk_cell yBB 1 _ rfl
            clear yBB
            clear hb
            replace BA := Lib.hid (blk_next HB.out BA.out)
            replace BB := Lib.hid (blk_next HB.out BB.out)
            replace Bc := Lib.hid (blk_next HB.out Bc.out)
            replace Bd := Lib.hid (blk_next HB.out Bd.out)
            replace Bg := Lib.hid (blk_next HB.out Bg.out)
            replace Bi := Lib.hid (blk_next HB.out Bi.out)
            replace Bk := Lib.hid (blk_next HB.out Bk.out)
            replace NN := Lib.hid (Bgo NN.out HB.out)
            have Bq : Hid ((w8.alloc (.cells #[.int .i64 0, .int .i64 0] 23)).heap[w8.heap.size]? = some (.cells #[.int .i64 0, .int .i64 0] 23)) := Lib.hid (blk_new w8 _)
            clear HB
            go_wp2_with fail
            clear lBB cBB0 cBB1
            generalize w8.alloc (.cells #[.int .i64 0, .int .i64 0] 23) = W8 at *
            generalize w8.heap.size = gq at *
            refine (alive_calls _).mono ?_
            rintro e w9 ⟨rfl, hb⟩
            replace BA := Lib.hid (blk_next hb BA.out)
            replace BB := Lib.hid (blk_next hb BB.out)
            replace Bc := Lib.hid (blk_next hb Bc.out)
            replace Bd := Lib.hid (blk_next hb Bd.out)
            replace Bg := Lib.hid (blk_next hb Bg.out)
            replace Bi := Lib.hid (blk_next hb Bi.out)
            replace Bk := Lib.hid (blk_next hb Bk.out)
            replace Bq := Lib.hid (blk_next hb Bq.out)
            replace NN := Lib.hid (Bgo NN.out hb)
            clear hb
            go_wp2_with fail
            go_ret
            exact ⟨rfl, NN.out⟩
          have bz' : (an == 0) = false := by rw [beq_eq_false_iff_ne]; exact bz
          have DR := DB.out _ _ _ bz HQ.out
          clear DZ DB HQ HK SB HC bz
          rcases DR with rfl | ⟨rfl, mb⟩
          · skip
            refine (C1.out _).mono ?_
            rintro e w7 ⟨rfl, hb⟩
            replace BA := Lib.hid (blk_next hb BA.out)
            replace BB := Lib.hid (blk_next hb BB.out)
            replace Bc := Lib.hid (blk_next hb Bc.out)
            replace Bd := Lib.hid (blk_next hb Bd.out)
            replace Bg := Lib.hid (blk_next hb Bg.out)
            replace Bi := Lib.hid (blk_next hb Bi.out)
            replace Bk := Lib.hid (blk_next hb Bk.out)
            replace NN := Lib.hid (Bgo NN.out hb)
            clear hb
            have lBA := blk_lt BA.out
            have cBA0 := blk_cell BA.out 0 _ rfl
            have cBA1 := blk_cell BA.out 1 _ rfl
            have lBB := blk_lt BB.out
            have cBB0 := blk_cell BB.out 0 _ rfl
            have cBB1 := blk_cell BB.out 1 _ rfl
            have lBc := blk_lt Bc.out
            have cBc0 := blk_cell Bc.out 0 _ rfl
            have cBc1 := blk_cell Bc.out 1 _ rfl
            have lBd := blk_lt Bd.out
            have cBd0 := blk_cell Bd.out 0 _ rfl
            have cBd1 := blk_cell Bd.out 1 _ rfl
            have lBg := blk_lt Bg.out
            have cBg0 := blk_cell Bg.out 0 _ rfl
            have cBg1 := blk_cell Bg.out 1 _ rfl
            have lBi := blk_lt Bi.out
            have cBi0 := blk_cell Bi.out 0 _ rfl
            have cBi1 := blk_cell Bi.out 1 _ rfl
            have lBk := blk_lt Bk.out
            have cBk0 := blk_cell Bk.out 0 _ rfl
            have cBk1 := blk_cell Bk.out 1 _ rfl
            go_wp2_with fail
            refine (D1.out _).mono ?_
            rintro e w8 ⟨rfl, hb⟩
            clear lBA cBA0 cBA1 lBB cBB0 cBB1 lBc cBc0 cBc1 lBd cBd0 cBd1 lBg cBg0 cBg1 lBi cBi0 cBi1 lBk cBk0 cBk1
            have HB : Hid (Below w7.heap.size w7 (w8.alloc (.cells #[.int .i64 q1, .int .i64 q2] 23))) := Lib.hid (Bal hb _)
            have yBB := blk_next hb BB.out
            have lBB := blk_lt yBB
            have cBB0 := blk_cell yBB 0 _ rfl
            have cBB1 := blk_cell yBB 1 _ rfl
            clear yBB
            clear hb
            replace BA := Lib.hid (blk_next HB.out BA.out)
            replace BB := Lib.hid (blk_next HB.out BB.out)
            replace Bc := Lib.hid (blk_next HB.out Bc.out)
            replace Bd := Lib.hid (blk_next HB.out Bd.out)
            replace Bg := Lib.hid (blk_next HB.out Bg.out)
            replace Bi := Lib.hid (blk_next HB.out Bi.out)
            replace Bk := Lib.hid (blk_next HB.out Bk.out)
            replace NN := Lib.hid (Bgo NN.out HB.out)
            have Bq : Hid ((w8.alloc (.cells #[.int .i64 q1, .int .i64 q2] 23)).heap[w8.heap.size]? = some (.cells #[.int .i64 q1, .int .i64 q2] 23)) := Lib.hid (blk_new w8 _)
            clear HB
            go_wp2_with fail
            clear lBB cBB0 cBB1
            generalize w8.alloc (.cells #[.int .i64 q1, .int .i64 q2] 23) = W8 at *
            generalize w8.heap.size = gq at *
            refine (alive_calls _).mono ?_
            rintro e w9 ⟨rfl, hb⟩
            replace BA := Lib.hid (blk_next hb BA.out)
            replace BB := Lib.hid (blk_next hb BB.out)
            replace Bc := Lib.hid (blk_next hb Bc.out)
            replace Bd := Lib.hid (blk_next hb Bd.out)
            replace Bg := Lib.hid (blk_next hb Bg.out)
            replace Bi := Lib.hid (blk_next hb Bi.out)
            replace Bk := Lib.hid (blk_next hb Bk.out)
            replace Bq := Lib.hid (blk_next hb Bq.out)
            replace NN := Lib.hid (Bgo NN.out hb)
            clear hb
            go_wp2_with fail
            go_ret
            exact ⟨rfl, NN.out⟩
          · have MB := Lib.hid (fun W => mul_calls q1 q2 an ad W)
            rw [mb] at MB
            clear mb
            refine (C1.out _).mono ?_
            rintro e w7 ⟨rfl, hb⟩
            replace BA := Lib.hid (blk_next hb BA.out)
            replace BB := Lib.hid (blk_next hb BB.out)
            replace Bc := Lib.hid (blk_next hb Bc.out)
            replace Bd := Lib.hid (blk_next hb Bd.out)
            replace Bg := Lib.hid (blk_next hb Bg.out)
            replace Bi := Lib.hid (blk_next hb Bi.out)
            replace Bk := Lib.hid (blk_next hb Bk.out)
            replace NN := Lib.hid (Bgo NN.out hb)
            clear hb
            have lBA := blk_lt BA.out
            have cBA0 := blk_cell BA.out 0 _ rfl
            have cBA1 := blk_cell BA.out 1 _ rfl
            have lBB := blk_lt BB.out
            have cBB0 := blk_cell BB.out 0 _ rfl
            have cBB1 := blk_cell BB.out 1 _ rfl
            have lBc := blk_lt Bc.out
            have cBc0 := blk_cell Bc.out 0 _ rfl
            have cBc1 := blk_cell Bc.out 1 _ rfl
            have lBd := blk_lt Bd.out
            have cBd0 := blk_cell Bd.out 0 _ rfl
            have cBd1 := blk_cell Bd.out 1 _ rfl
            have lBg := blk_lt Bg.out
            have cBg0 := blk_cell Bg.out 0 _ rfl
            have cBg1 := blk_cell Bg.out 1 _ rfl
            have lBi := blk_lt Bi.out
            have cBi0 := blk_cell Bi.out 0 _ rfl
            have cBi1 := blk_cell Bi.out 1 _ rfl
            have lBk := blk_lt Bk.out
            have cBk0 := blk_cell Bk.out 0 _ rfl
            have cBk1 := blk_cell Bk.out 1 _ rfl
            go_wp2_with fail
            refine (D1.out _).mono ?_
            rintro e w8 ⟨rfl, hb⟩
            clear lBA cBA0 cBA1 lBB cBB0 cBB1 lBc cBc0 cBc1 lBd cBd0 cBd1 lBg cBg0 cBg1 lBi cBi0 cBi1 lBk cBk0 cBk1
            have HB : Hid (Below w7.heap.size w7 (w8.alloc (.cells #[.int .i64 q1, .int .i64 q2] 23))) := Lib.hid (Bal hb _)
            have yBB := blk_next hb BB.out
            have lBB := blk_lt yBB
            have cBB0 := blk_cell yBB 0 _ rfl
            have cBB1 := blk_cell yBB 1 _ rfl
            clear yBB
            clear hb
            replace BA := Lib.hid (blk_next HB.out BA.out)
            replace BB := Lib.hid (blk_next HB.out BB.out)
            replace Bc := Lib.hid (blk_next HB.out Bc.out)
            replace Bd := Lib.hid (blk_next HB.out Bd.out)
            replace Bg := Lib.hid (blk_next HB.out Bg.out)
            replace Bi := Lib.hid (blk_next HB.out Bi.out)
            replace Bk := Lib.hid (blk_next HB.out Bk.out)
            replace NN := Lib.hid (Bgo NN.out HB.out)
            have Bq : Hid ((w8.alloc (.cells #[.int .i64 q1, .int .i64 q2] 23)).heap[w8.heap.size]? = some (.cells #[.int .i64 q1, .int .i64 q2] 23)) := Lib.hid (blk_new w8 _)
            clear HB
            go_wp2_with fail
            clear lBB cBB0 cBB1
            generalize w8.alloc (.cells #[.int .i64 q1, .int .i64 q2] 23) = W8 at *
            generalize w8.heap.size = gq at *
            refine (MB.out _).mono ?_
            rintro e w9 ⟨rfl, hb⟩
            have HB : Hid (Below W8.heap.size W8 (w9.alloc (.cells #[.int .i64 an, .int .i64 ad] 23))) := Lib.hid (Bal hb _)
            have yBA := blk_next hb BA.out
            have lBA := blk_lt yBA
            have cBA0 := blk_cell yBA 0 _ rfl
            have cBA1 := blk_cell yBA 1 _ rfl
            clear yBA
            clear hb
            replace BA := Lib.hid (blk_next HB.out BA.out)
            replace BB := Lib.hid (blk_next HB.out BB.out)
            replace Bc := Lib.hid (blk_next HB.out Bc.out)
            replace Bd := Lib.hid (blk_next HB.out Bd.out)
            replace Bg := Lib.hid (blk_next HB.out Bg.out)
            replace Bi := Lib.hid (blk_next HB.out Bi.out)
            replace Bk := Lib.hid (blk_next HB.out Bk.out)
            replace Bq := Lib.hid (blk_next HB.out Bq.out)
            replace NN := Lib.hid (Bgo NN.out HB.out)
            have Bs : Hid ((w9.alloc (.cells #[.int .i64 an, .int .i64 ad] 23)).heap[w9.heap.size]? = some (.cells #[.int .i64 an, .int .i64 ad] 23)) := Lib.hid (blk_new w9 _)
            clear HB
            go_wp2_with fail
            clear lBA cBA0 cBA1
            generalize w9.alloc (.cells #[.int .i64 an, .int .i64 ad] 23) = W9 at *
            generalize w9.heap.size = gs at *
            refine (alive_calls _).mono ?_
            rintro e w10 ⟨rfl, hb⟩
            replace BA := Lib.hid (blk_next hb BA.out)
            replace BB := Lib.hid (blk_next hb BB.out)
            replace Bc := Lib.hid (blk_next hb Bc.out)
            replace Bd := Lib.hid (blk_next hb Bd.out)
            replace Bg := Lib.hid (blk_next hb Bg.out)
            replace Bi := Lib.hid (blk_next hb Bi.out)
            replace Bk := Lib.hid (blk_next hb Bk.out)
            replace Bq := Lib.hid (blk_next hb Bq.out)
            replace Bs := Lib.hid (blk_next hb Bs.out)
            replace NN := Lib.hid (Bgo NN.out hb)
            clear hb
            go_wp2_with fail
            go_ret
            exact ⟨rfl, NN.out⟩
      · have cz : (cr == 0) = false := by rw [← CZ, Bool.eq_false_iff]; intro h; simp at h; exact ed h.2
        clear CZ
        subst ee
        by_cases kz : k3 = 0
        · subst kz
          obtain ⟨e1, e2, e3⟩ := SB.out _ _ HK.out
          rw [HC.out] at e2 e3
          have AB := Lib.hid (fun W => add_calls k1 k2 an bd W)
          rw [e1] at AB
          clear e1
          by_cases bz : an = 0
          · obtain ⟨rfl, rfl, rfl⟩ : 0 = q1 ∧ 0 = q2 ∧ 18 = q3 := by
              have := DZ.out bz
              rw [HQ.out] at this
              simp only [Prod.mk.injEq] at this
              exact ⟨this.1.symm, this.2.1.symm, this.2.2.symm⟩
            have bz' : (an == 0) = true := by rw [bz]; rfl
            clear bz DZ DB HQ HK SB HC
            refine (C1.out _).mono ?_
            rintro e w7 ⟨rfl, hb⟩
            replace BA := Lib.hid (blk_next hb BA.out)
            replace BB := Lib.hid (blk_next hb BB.out)
            replace Bc := Lib.hid (blk_next hb Bc.out)
            replace Bd := Lib.hid (blk_next hb Bd.out)
            replace Bg := Lib.hid (blk_next hb Bg.out)
            replace Bi := Lib.hid (blk_next hb Bi.out)
            replace Bk := Lib.hid (blk_next hb Bk.out)
            replace NN := Lib.hid (Bgo NN.out hb)
            clear hb
            have lBA := blk_lt BA.out
            have cBA0 := blk_cell BA.out 0 _ rfl
            have cBA1 := blk_cell BA.out 1 _ rfl
            have lBB := blk_lt BB.out
            have cBB0 := blk_cell BB.out 0 _ rfl
            have cBB1 := blk_cell BB.out 1 _ rfl
            have lBc := blk_lt Bc.out
            have cBc0 := blk_cell Bc.out 0 _ rfl
            have cBc1 := blk_cell Bc.out 1 _ rfl
            have lBd := blk_lt Bd.out
            have cBd0 := blk_cell Bd.out 0 _ rfl
            have cBd1 := blk_cell Bd.out 1 _ rfl
            have lBg := blk_lt Bg.out
            have cBg0 := blk_cell Bg.out 0 _ rfl
            have cBg1 := blk_cell Bg.out 1 _ rfl
            have lBi := blk_lt Bi.out
            have cBi0 := blk_cell Bi.out 0 _ rfl
            have cBi1 := blk_cell Bi.out 1 _ rfl
            have lBk := blk_lt Bk.out
            have cBk0 := blk_cell Bk.out 0 _ rfl
            have cBk1 := blk_cell Bk.out 1 _ rfl
            go_wp2_with fail
            refine (AB.out _).mono ?_
            rintro e w8 ⟨rfl, hb⟩
            clear lBA cBA0 cBA1 lBB cBB0 cBB1 lBc cBc0 cBc1 lBd cBd0 cBd1 lBg cBg0 cBg1 lBi cBi0 cBi1 lBk cBk0 cBk1
            have HB : Hid (Below w7.heap.size w7 (w8.alloc (.cells #[.int .i64 an, .int .i64 ad] 23))) := Lib.hid (Bal hb _)
            have yBA := blk_next hb BA.out
            have lBA := blk_lt yBA
            have cBA0 := blk_cell yBA 0 _ rfl
            have cBA1 := blk_cell yBA 1 _ rfl
            clear yBA
            have yBB := blk_next hb BB.out
            have lBB := blk_lt yBB
            have cBB0 := blk_cell yBB 0 _ rfl
            have cBB1 := blk_cell yBB 1 _ rfl
            clear yBB
            have yBk := blk_next hb Bk.out
            have lBk := blk_lt yBk
            have cBk0 := blk_cell yBk 0 _ rfl
            have cBk1 := blk_cell yBk 1 _ rfl
            clear yBk
            clear hb
            replace BA := Lib.hid (blk_next HB.out BA.out)
            replace BB := Lib.hid (blk_next HB.out BB.out)
            replace Bc := Lib.hid (blk_next HB.out Bc.out)
            replace Bd := Lib.hid (blk_next HB.out Bd.out)
            replace Bg := Lib.hid (blk_next HB.out Bg.out)
            replace Bi := Lib.hid (blk_next HB.out Bi.out)
            replace Bk := Lib.hid (blk_next HB.out Bk.out)
            replace NN := Lib.hid (Bgo NN.out HB.out)
            have Bo : Hid ((w8.alloc (.cells #[.int .i64 an, .int .i64 ad] 23)).heap[w8.heap.size]? = some (.cells #[.int .i64 an, .int .i64 ad] 23)) := Lib.hid (blk_new w8 _)
            clear HB
            go_wp2_with fail
            clear lBA cBA0 cBA1 lBB cBB0 cBB1 lBk cBk0 cBk1
            generalize w8.alloc (.cells #[.int .i64 an, .int .i64 ad] 23) = W8 at *
            generalize w8.heap.size = go at *
            refine (D1.out _).mono ?_
            rintro e w9 ⟨rfl, hb⟩
            have HB : Hid (Below W8.heap.size W8 (w9.alloc (.cells #[.int .i64 0, .int .i64 0] 23))) := Lib.hid (Bal hb _)
            have yBB := blk_next hb BB.out
            have lBB := blk_lt yBB
            have cBB0 := blk_cell yBB 0 _ rfl
            have cBB1 := blk_cell yBB 1 _ rfl
            clear yBB
            clear hb
            replace BA := Lib.hid (blk_next HB.out BA.out)
            replace BB := Lib.hid (blk_next HB.out BB.out)
            replace Bc := Lib.hid (blk_next HB.out Bc.out)
            replace Bd := Lib.hid (blk_next HB.out Bd.out)
            replace Bg := Lib.hid (blk_next HB.out Bg.out)
            replace Bi := Lib.hid (blk_next HB.out Bi.out)
            replace Bk := Lib.hid (blk_next HB.out Bk.out)
            replace Bo := Lib.hid (blk_next HB.out Bo.out)
            replace NN := Lib.hid (Bgo NN.out HB.out)
            have Bq : Hid ((w9.alloc (.cells #[.int .i64 0, .int .i64 0] 23)).heap[w9.heap.size]? = some (.cells #[.int .i64 0, .int .i64 0] 23)) := Lib.hid (blk_new w9 _)
            clear HB
            go_wp2_with fail
            clear lBB cBB0 cBB1
            generalize w9.alloc (.cells #[.int .i64 0, .int .i64 0] 23) = W9 at *
            generalize w9.heap.size = gq at *
            refine (alive_calls _).mono ?_
            rintro e w10 ⟨rfl, hb⟩
            replace BA := Lib.hid (blk_next hb BA.out)
            replace BB := Lib.hid (blk_next hb BB.out)
            replace Bc := Lib.hid (blk_next hb Bc.out)
            replace Bd := Lib.hid (blk_next hb Bd.out)
            replace Bg := Lib.hid (blk_next hb Bg.out)
            replace Bi := Lib.hid (blk_next hb Bi.out)
            replace Bk := Lib.hid (blk_next hb Bk.out)
            replace Bo := Lib.hid (blk_next hb Bo.out)
            replace Bq := Lib.hid (blk_next hb Bq.out)
            replace NN := Lib.hid (Bgo NN.out hb)
            clear hb
            go_wp2_with fail
            go_ret
            exact ⟨rfl, NN.out⟩
          have bz' : (an == 0) = false := by rw [beq_eq_false_iff_ne]; exact bz
          have DR := DB.out _ _ _ bz HQ.out
          clear DZ DB HQ HK SB HC bz
          rcases DR with rfl | ⟨rfl, mb⟩
          · skip
            refine (C1.out _).mono ?_
            rintro e w7 ⟨rfl, hb⟩
            replace BA := Lib.hid (blk_next hb BA.out)
            replace BB := Lib.hid (blk_next hb BB.out)
            replace Bc := Lib.hid (blk_next hb Bc.out)
            replace Bd := Lib.hid (blk_next hb Bd.out)
            replace Bg := Lib.hid (blk_next hb Bg.out)
            replace Bi := Lib.hid (blk_next hb Bi.out)
            replace Bk := Lib.hid (blk_next hb Bk.out)
            replace NN := Lib.hid (Bgo NN.out hb)
            clear hb
            have lBA := blk_lt BA.out
            have cBA0 := blk_cell BA.out 0 _ rfl
            have cBA1 := blk_cell BA.out 1 _ rfl
            have lBB := blk_lt BB.out
            have cBB0 := blk_cell BB.out 0 _ rfl
            have cBB1 := blk_cell BB.out 1 _ rfl
            have lBc := blk_lt Bc.out
            have cBc0 := blk_cell Bc.out 0 _ rfl
            have cBc1 := blk_cell Bc.out 1 _ rfl
            have lBd := blk_lt Bd.out
            have cBd0 := blk_cell Bd.out 0 _ rfl
            have cBd1 := blk_cell Bd.out 1 _ rfl
            have lBg := blk_lt Bg.out
            have cBg0 := blk_cell Bg.out 0 _ rfl
            have cBg1 := blk_cell Bg.out 1 _ rfl
            have lBi := blk_lt Bi.out
            have cBi0 := blk_cell Bi.out 0 _ rfl
            have cBi1 := blk_cell Bi.out 1 _ rfl
            have lBk := blk_lt Bk.out
            have cBk0 := blk_cell Bk.out 0 _ rfl
            have cBk1 := blk_cell Bk.out 1 _ rfl
            go_wp2_with fail
            refine (AB.out _).mono ?_
            rintro e w8 ⟨rfl, hb⟩
            clear lBA cBA0 cBA1 lBB cBB0 cBB1 lBc cBc0 cBc1 lBd cBd0 cBd1 lBg cBg0 cBg1 lBi cBi0 cBi1 lBk cBk0 cBk1
            have HB : Hid (Below w7.heap.size w7 (w8.alloc (.cells #[.int .i64 an, .int .i64 ad] 23))) := Lib.hid (Bal hb _)
            have yBA := blk_next hb BA.out
            have lBA := blk_lt yBA
            have cBA0 := blk_cell yBA 0 _ rfl
            have cBA1 := blk_cell yBA 1 _ rfl
            clear yBA
            have yBB := blk_next hb BB.out
            have lBB := blk_lt yBB
            have cBB0 := blk_cell yBB 0 _ rfl
            have cBB1 := blk_cell yBB 1 _ rfl
            clear yBB
            have yBk := blk_next hb Bk.out
            have lBk := blk_lt yBk
            have cBk0 := blk_cell yBk 0 _ rfl
            have cBk1 := blk_cell yBk 1 _ rfl
            clear yBk
            clear hb
            replace BA := Lib.hid (blk_next HB.out BA.out)
            replace BB := Lib.hid (blk_next HB.out BB.out)
            replace Bc := Lib.hid (blk_next HB.out Bc.out)
            replace Bd := Lib.hid (blk_next HB.out Bd.out)
            replace Bg := Lib.hid (blk_next HB.out Bg.out)
            replace Bi := Lib.hid (blk_next HB.out Bi.out)
            replace Bk := Lib.hid (blk_next HB.out Bk.out)
            replace NN := Lib.hid (Bgo NN.out HB.out)
            have Bo : Hid ((w8.alloc (.cells #[.int .i64 an, .int .i64 ad] 23)).heap[w8.heap.size]? = some (.cells #[.int .i64 an, .int .i64 ad] 23)) := Lib.hid (blk_new w8 _)
            clear HB
            go_wp2_with fail
            clear lBA cBA0 cBA1 lBB cBB0 cBB1 lBk cBk0 cBk1
            generalize w8.alloc (.cells #[.int .i64 an, .int .i64 ad] 23) = W8 at *
            generalize w8.heap.size = go at *
            refine (D1.out _).mono ?_
            rintro e w9 ⟨rfl, hb⟩
            have HB : Hid (Below W8.heap.size W8 (w9.alloc (.cells #[.int .i64 q1, .int .i64 q2] 23))) := Lib.hid (Bal hb _)
            have yBB := blk_next hb BB.out
            have lBB := blk_lt yBB
            have cBB0 := blk_cell yBB 0 _ rfl
            have cBB1 := blk_cell yBB 1 _ rfl
            clear yBB
            clear hb
            replace BA := Lib.hid (blk_next HB.out BA.out)
            replace BB := Lib.hid (blk_next HB.out BB.out)
            replace Bc := Lib.hid (blk_next HB.out Bc.out)
            replace Bd := Lib.hid (blk_next HB.out Bd.out)
            replace Bg := Lib.hid (blk_next HB.out Bg.out)
            replace Bi := Lib.hid (blk_next HB.out Bi.out)
            replace Bk := Lib.hid (blk_next HB.out Bk.out)
            replace Bo := Lib.hid (blk_next HB.out Bo.out)
            replace NN := Lib.hid (Bgo NN.out HB.out)
            have Bq : Hid ((w9.alloc (.cells #[.int .i64 q1, .int .i64 q2] 23)).heap[w9.heap.size]? = some (.cells #[.int .i64 q1, .int .i64 q2] 23)) := Lib.hid (blk_new w9 _)
            clear HB
            go_wp2_with fail
            clear lBB cBB0 cBB1
            generalize w9.alloc (.cells #[.int .i64 q1, .int .i64 q2] 23) = W9 at *
            generalize w9.heap.size = gq at *
            refine (alive_calls _).mono ?_
            rintro e w10 ⟨rfl, hb⟩
            replace BA := Lib.hid (blk_next hb BA.out)
            replace BB := Lib.hid (blk_next hb BB.out)
            replace Bc := Lib.hid (blk_next hb Bc.out)
            replace Bd := Lib.hid (blk_next hb Bd.out)
            replace Bg := Lib.hid (blk_next hb Bg.out)
            replace Bi := Lib.hid (blk_next hb Bi.out)
            replace Bk := Lib.hid (blk_next hb Bk.out)
            replace Bo := Lib.hid (blk_next hb Bo.out)
            replace Bq := Lib.hid (blk_next hb Bq.out)
            replace NN := Lib.hid (Bgo NN.out hb)
            clear hb
            go_wp2_with fail
            go_ret
            exact ⟨rfl, NN.out⟩
          · have MB := Lib.hid (fun W => mul_calls q1 q2 an bd W)
            rw [mb] at MB
            clear mb
            refine (C1.out _).mono ?_
            rintro e w7 ⟨rfl, hb⟩
            replace BA := Lib.hid (blk_next hb BA.out)
            replace BB := Lib.hid (blk_next hb BB.out)
            replace Bc := Lib.hid (blk_next hb Bc.out)
            replace Bd := Lib.hid (blk_next hb Bd.out)
            replace Bg := Lib.hid (blk_next hb Bg.out)
            replace Bi := Lib.hid (blk_next hb Bi.out)
            replace Bk := Lib.hid (blk_next hb Bk.out)
            replace NN := Lib.hid (Bgo NN.out hb)
            clear hb
            have lBA := blk_lt BA.out
            have cBA0 := blk_cell BA.out 0 _ rfl
            have cBA1 := blk_cell BA.out 1 _ rfl
            have lBB := blk_lt BB.out
            have cBB0 := blk_cell BB.out 0 _ rfl
            have cBB1 := blk_cell BB.out 1 _ rfl
            have lBc := blk_lt Bc.out
            have cBc0 := blk_cell Bc.out 0 _ rfl
            have cBc1 := blk_cell Bc.out 1 _ rfl
            have lBd := blk_lt Bd.out
            have cBd0 := blk_cell Bd.out 0 _ rfl
            have cBd1 := blk_cell Bd.out 1 _ rfl
            have lBg := blk_lt Bg.out
            have cBg0 := blk_cell Bg.out 0 _ rfl
            have cBg1 := blk_cell Bg.out 1 _ rfl
            have lBi := blk_lt Bi.out
            have cBi0 := blk_cell Bi.out 0 _ rfl
            have cBi1 := blk_cell Bi.out 1 _ rfl
            have lBk := blk_lt Bk.out
            have cBk0 := blk_cell Bk.out 0 _ rfl
            have cBk1 := blk_cell Bk.out 1 _ rfl
            go_wp2_with fail
            refine (AB.out _).mono ?_
            rintro e w8 ⟨rfl, hb⟩
            clear lBA cBA0 cBA1 lBB cBB0 cBB1 lBc cBc0 cBc1 lBd cBd0 cBd1 lBg cBg0 cBg1 lBi cBi0 cBi1 lBk cBk0 cBk1
            have HB : Hid (Below w7.heap.size w7 (w8.alloc (.cells #[.int .i64 an, .int .i64 ad] 23))) := Lib.hid (Bal hb _)
            have yBA := blk_next hb BA.out
            have lBA := blk_lt yBA
            have cBA0 := blk_cell yBA 0 _ rfl
            have cBA1 := blk_cell yBA 1 _ rfl
            clear yBA
            have yBB := blk_next hb BB.out
            have lBB := blk_lt yBB
            have cBB0 := blk_cell yBB 0 _ rfl
            have cBB1 := blk_cell yBB 1 _ rfl
            clear yBB
            have yBk := blk_next hb Bk.out
            have lBk := blk_lt yBk
            have cBk0 := blk_cell yBk 0 _ rfl
            have cBk1 := blk_cell yBk 1 _ rfl
            clear yBk
            clear hb
            replace BA := Lib.hid (blk_next HB.out BA.out)
            replace BB := Lib.hid (blk_next HB.out BB.out)
            replace Bc := Lib.hid (blk_next HB.out Bc.out)
            replace Bd := Lib.hid (blk_next HB.out Bd.out)
            replace Bg := Lib.hid (blk_next HB.out Bg.out)
            replace Bi := Lib.hid (blk_next HB.out Bi.out)
            replace Bk := Lib.hid (blk_next HB.out Bk.out)
            replace NN := Lib.hid (Bgo NN.out HB.out)
            have Bo : Hid ((w8.alloc (.cells #[.int .i64 an, .int .i64 ad] 23)).heap[w8.heap.size]? = some (.cells #[.int .i64 an, .int .i64 ad] 23)) := Lib.hid (blk_new w8 _)
            clear HB
            go_wp2_with fail
            clear lBA cBA0 cBA1 lBB cBB0 cBB1 lBk cBk0 cBk1
            generalize w8.alloc (.cells #[.int .i64 an, .int .i64 ad] 23) = W8 at *
            generalize w8.heap.size = go at *
            refine (D1.out _).mono ?_
            rintro e w9 ⟨rfl, hb⟩
            have HB : Hid (Below W8.heap.size W8 (w9.alloc (.cells #[.int .i64 q1, .int .i64 q2] 23))) := Lib.hid (Bal hb _)
            have yBB := blk_next hb BB.out
            have lBB := blk_lt yBB
            have cBB0 := blk_cell yBB 0 _ rfl
            have cBB1 := blk_cell yBB 1 _ rfl
            clear yBB
            clear hb
            replace BA := Lib.hid (blk_next HB.out BA.out)
            replace BB := Lib.hid (blk_next HB.out BB.out)
            replace Bc := Lib.hid (blk_next HB.out Bc.out)
            replace Bd := Lib.hid (blk_next HB.out Bd.out)
            replace Bg := Lib.hid (blk_next HB.out Bg.out)
            replace Bi := Lib.hid (blk_next HB.out Bi.out)
            replace Bk := Lib.hid (blk_next HB.out Bk.out)
            replace Bo := Lib.hid (blk_next HB.out Bo.out)
            replace NN := Lib.hid (Bgo NN.out HB.out)
            have Bq : Hid ((w9.alloc (.cells #[.int .i64 q1, .int .i64 q2] 23)).heap[w9.heap.size]? = some (.cells #[.int .i64 q1, .int .i64 q2] 23)) := Lib.hid (blk_new w9 _)
            clear HB
            go_wp2_with fail
            clear lBB cBB0 cBB1
            generalize w9.alloc (.cells #[.int .i64 q1, .int .i64 q2] 23) = W9 at *
            generalize w9.heap.size = gq at *
            refine (MB.out _).mono ?_
            rintro e w10 ⟨rfl, hb⟩
            have HB : Hid (Below W9.heap.size W9 (w10.alloc (.cells #[.int .i64 an, .int .i64 ad] 23))) := Lib.hid (Bal hb _)
            have yBA := blk_next hb BA.out
            have lBA := blk_lt yBA
            have cBA0 := blk_cell yBA 0 _ rfl
            have cBA1 := blk_cell yBA 1 _ rfl
            clear yBA
            clear hb
            replace BA := Lib.hid (blk_next HB.out BA.out)
            replace BB := Lib.hid (blk_next HB.out BB.out)
            replace Bc := Lib.hid (blk_next HB.out Bc.out)
            replace Bd := Lib.hid (blk_next HB.out Bd.out)
            replace Bg := Lib.hid (blk_next HB.out Bg.out)
            replace Bi := Lib.hid (blk_next HB.out Bi.out)
            replace Bk := Lib.hid (blk_next HB.out Bk.out)
            replace Bo := Lib.hid (blk_next HB.out Bo.out)
            replace Bq := Lib.hid (blk_next HB.out Bq.out)
            replace NN := Lib.hid (Bgo NN.out HB.out)
            have Bs : Hid ((w10.alloc (.cells #[.int .i64 an, .int .i64 ad] 23)).heap[w10.heap.size]? = some (.cells #[.int .i64 an, .int .i64 ad] 23)) := Lib.hid (blk_new w10 _)
            clear HB
            go_wp2_with fail
            clear lBA cBA0 cBA1
            generalize w10.alloc (.cells #[.int .i64 an, .int .i64 ad] 23) = W10 at *
            generalize w10.heap.size = gs at *
            refine (alive_calls _).mono ?_
            rintro e w11 ⟨rfl, hb⟩
            replace BA := Lib.hid (blk_next hb BA.out)
            replace BB := Lib.hid (blk_next hb BB.out)
            replace Bc := Lib.hid (blk_next hb Bc.out)
            replace Bd := Lib.hid (blk_next hb Bd.out)
            replace Bg := Lib.hid (blk_next hb Bg.out)
            replace Bi := Lib.hid (blk_next hb Bi.out)
            replace Bk := Lib.hid (blk_next hb Bk.out)
            replace Bo := Lib.hid (blk_next hb Bo.out)
            replace Bq := Lib.hid (blk_next hb Bq.out)
            replace Bs := Lib.hid (blk_next hb Bs.out)
            replace NN := Lib.hid (Bgo NN.out hb)
            clear hb
            go_wp2_with fail
            go_ret
            exact ⟨rfl, NN.out⟩
        · have kz' : (k3 == 0) = false := by rw [beq_eq_false_iff_ne]; exact kz
          clear kz
          by_cases bz : an = 0
          · obtain ⟨rfl, rfl, rfl⟩ : 0 = q1 ∧ 0 = q2 ∧ 18 = q3 := by
              have := DZ.out bz
              rw [HQ.out] at this
              simp only [Prod.mk.injEq] at this
              exact ⟨this.1.symm, this.2.1.symm, this.2.2.symm⟩
            have bz' : (an == 0) = true := by rw [bz]; rfl
            clear bz DZ DB HQ HK SB HC
            refine (C1.out _).mono ?_
            rintro e w7 ⟨rfl, hb⟩
            replace BA := Lib.hid (blk_next hb BA.out)
            replace BB := Lib.hid (blk_next hb BB.out)
            replace Bc := Lib.hid (blk_next hb Bc.out)
            replace Bd := Lib.hid (blk_next hb Bd.out)
            replace Bg := Lib.hid (blk_next hb Bg.out)
            replace Bi := Lib.hid (blk_next hb Bi.out)
            replace Bk := Lib.hid (blk_next hb Bk.out)
            replace NN := Lib.hid (Bgo NN.out hb)
            clear hb
            have lBA := blk_lt BA.out
            have cBA0 := blk_cell BA.out 0 _ rfl
            have cBA1 := blk_cell BA.out 1 _ rfl
            have lBB := blk_lt BB.out
            have cBB0 := blk_cell BB.out 0 _ rfl
            have cBB1 := blk_cell BB.out 1 _ rfl
            have lBc := blk_lt Bc.out
            have cBc0 := blk_cell Bc.out 0 _ rfl
            have cBc1 := blk_cell Bc.out 1 _ rfl
            have lBd := blk_lt Bd.out
            have cBd0 := blk_cell Bd.out 0 _ rfl
            have cBd1 := blk_cell Bd.out 1 _ rfl
            have lBg := blk_lt Bg.out
            have cBg0 := blk_cell Bg.out 0 _ rfl
            have cBg1 := blk_cell Bg.out 1 _ rfl
            have lBi := blk_lt Bi.out
            have cBi0 := blk_cell Bi.out 0 _ rfl
            have cBi1 := blk_cell Bi.out 1 _ rfl
            have lBk := blk_lt Bk.out
            have cBk0 := blk_cell Bk.out 0 _ rfl
            have cBk1 := blk_cell Bk.out 1 _ rfl
            go_wp2_with fail
            refine (D1.out _).mono ?_
            rintro e w8 ⟨rfl, hb⟩
            clear lBA cBA0 cBA1 lBB cBB0 cBB1 lBc cBc0 cBc1 lBd cBd0 cBd1 lBg cBg0 cBg1 lBi cBi0 cBi1 lBk cBk0 cBk1
            have HB : Hid (Below w7.heap.size w7 (w8.alloc (.cells #[.int .i64 0, .int .i64 0] 23))) := Lib.hid (Bal hb _)
            have yBB := blk_next hb BB.out
            have lBB := blk_lt yBB
            have cBB0 := blk_cell yBB 0 _ rfl
            have cBB1 := blk_cell yBB 1 _ rfl
            clear yBB
            clear hb
            replace BA := Lib.hid (blk_next HB.out BA.out)
            replace BB := Lib.hid (blk_next HB.out BB.out)
            replace Bc := Lib.hid (blk_next HB.out Bc.out)
            replace Bd := Lib.hid (blk_next HB.out Bd.out)
            replace Bg := Lib.hid (blk_next HB.out Bg.out)
            replace Bi := Lib.hid (blk_next HB.out Bi.out)
            replace Bk := Lib.hid (blk_next HB.out Bk.out)
            replace NN := Lib.hid (Bgo NN.out HB.out)
            have Bq : Hid ((w8.alloc (.cells #[.int .i64 0, .int .i64 0] 23)).heap[w8.heap.size]? = some (.cells #[.int .i64 0, .int .i64 0] 23)) := Lib.hid (blk_new w8 _)
            clear HB
            go_wp2_with fail
            clear lBB cBB0 cBB1
            generalize w8.alloc (.cells #[.int .i64 0, .int .i64 0] 23) = W8 at *
            generalize w8.heap.size = gq at *
            refine (alive_calls _).mono ?_
            rintro e w9 ⟨rfl, hb⟩
            replace BA := Lib.hid (blk_next hb BA.out)
            replace BB := Lib.hid (blk_next hb BB.out)
            replace Bc := Lib.hid (blk_next hb Bc.out)
            replace Bd := Lib.hid (blk_next hb Bd.out)
            replace Bg := Lib.hid (blk_next hb Bg.out)
            replace Bi := Lib.hid (blk_next hb Bi.out)
            replace Bk := Lib.hid (blk_next hb Bk.out)
            replace Bq := Lib.hid (blk_next hb Bq.out)
            replace NN := Lib.hid (Bgo NN.out hb)
            clear hb
            go_wp2_with fail
            go_ret
            exact ⟨rfl, NN.out⟩
          have bz' : (an == 0) = false := by rw [beq_eq_false_iff_ne]; exact bz
          have DR := DB.out _ _ _ bz HQ.out
          clear DZ DB HQ HK SB HC bz
          rcases DR with rfl | ⟨rfl, mb⟩
          · skip
            refine (C1.out _).mono ?_
            rintro e w7 ⟨rfl, hb⟩
            replace BA := Lib.hid (blk_next hb BA.out)
            replace BB := Lib.hid (blk_next hb BB.out)
            replace Bc := Lib.hid (blk_next hb Bc.out)
            replace Bd := Lib.hid (blk_next hb Bd.out)
            replace Bg := Lib.hid (blk_next hb Bg.out)
            replace Bi := Lib.hid (blk_next hb Bi.out)
            replace Bk := Lib.hid (blk_next hb Bk.out)
            replace NN := Lib.hid (Bgo NN.out hb)
            clear hb
            have lBA := blk_lt BA.out
            have cBA0 := blk_cell BA.out 0 _ rfl
            have cBA1 := blk_cell BA.out 1 _ rfl
            have lBB := blk_lt BB.out
            have cBB0 := blk_cell BB.out 0 _ rfl
            have cBB1 := blk_cell BB.out 1 _ rfl
            have lBc := blk_lt Bc.out
            have cBc0 := blk_cell Bc.out 0 _ rfl
            have cBc1 := blk_cell Bc.out 1 _ rfl
            have lBd := blk_lt Bd.out
            have cBd0 := blk_cell Bd.out 0 _ rfl
            have cBd1 := blk_cell Bd.out 1 _ rfl
            have lBg := blk_lt Bg.out
            have cBg0 := blk_cell Bg.out 0 _ rfl
            have cBg1 := blk_cell Bg.out 1 _ rfl
            have lBi := blk_lt Bi.out
            have cBi0 := blk_cell Bi.out 0 _ rfl
            have cBi1 := blk_cell Bi.out 1 _ rfl
            have lBk := blk_lt Bk.out
            have cBk0 := blk_cell Bk.out 0 _ rfl
            have cBk1 := blk_cell Bk.out 1 _ rfl
            go_wp2_with fail
            refine (D1.out _).mono ?_
            rintro e w8 ⟨rfl, hb⟩
            clear lBA cBA0 cBA1 lBB cBB0 cBB1 lBc cBc0 cBc1 lBd cBd0 cBd1 lBg cBg0 cBg1 lBi cBi0 cBi1 lBk cBk0 cBk1
            have HB : Hid (Below w7.heap.size w7 (w8.alloc (.cells #[.int .i64 q1, .int .i64 q2] 23))) := Lib.hid (Bal hb _)
            have yBB := blk_next hb BB.out
            have lBB := blk_lt yBB
            have cBB0 := blk_cell yBB 0 _ rfl
            have cBB1 := blk_cell yBB 1 _ rfl
            clear yBB
            clear hb
            replace BA := Lib.hid (blk_next HB.out BA.out)
            replace BB := Lib.hid (blk_next HB.out BB.out)
            replace Bc := Lib.hid (blk_next HB.out Bc.out)
            replace Bd := Lib.hid (blk_next HB.out Bd.out)
            replace Bg := Lib.hid (blk_next HB.out Bg.out)
            replace Bi := Lib.hid (blk_next HB.out Bi.out)
            replace Bk := Lib.hid (blk_next HB.out Bk.out)
            replace NN := Lib.hid (Bgo NN.out HB.out)
            have Bq : Hid ((w8.alloc (.cells #[.int .i64 q1, .int .i64 q2] 23)).heap[w8.heap.size]? = some (.cells #[.int .i64 q1, .int .i64 q2] 23)) := Lib.hid (blk_new w8 _)
            clear HB
            go_wp2_with fail
            clear lBB cBB0 cBB1
            generalize w8.alloc (.cells #[.int .i64 q1, .int .i64 q2] 23) = W8 at *
            generalize w8.heap.size = gq at *
            refine (alive_calls _).mono ?_
            rintro e w9 ⟨rfl, hb⟩
            replace BA := Lib.hid (blk_next hb BA.out)
            replace BB := Lib.hid (blk_next hb BB.out)
            replace Bc := Lib.hid (blk_next hb Bc.out)
            replace Bd := Lib.hid (blk_next hb Bd.out)
            replace Bg := Lib.hid (blk_next hb Bg.out)
            replace Bi := Lib.hid (blk_next hb Bi.out)
            replace Bk := Lib.hid (blk_next hb Bk.out)
            replace Bq := Lib.hid (blk_next hb Bq.out)
            replace NN := Lib.hid (Bgo NN.out hb)
            clear hb
            go_wp2_with fail
            go_ret
            exact ⟨rfl, NN.out⟩
          · have MB := Lib.hid (fun W => mul_calls q1 q2 an bd W)
            rw [mb] at MB
            clear mb
            refine (C1.out _).mono ?_
            rintro e w7 ⟨rfl, hb⟩
            replace BA := Lib.hid (blk_next hb BA.out)
            replace BB := Lib.hid (blk_next hb BB.out)
            replace Bc := Lib.hid (blk_next hb Bc.out)
            replace Bd := Lib.hid (blk_next hb Bd.out)
            replace Bg := Lib.hid (blk_next hb Bg.out)
            replace Bi := Lib.hid (blk_next hb Bi.out)
            replace Bk := Lib.hid (blk_next hb Bk.out)
            replace NN := Lib.hid (Bgo NN.out hb)
            clear hb
            have lBA := blk_lt BA.out
            have cBA0 := blk_cell BA.out 0 _ rfl
            have cBA1 := blk_cell BA.out 1 _ rfl
            have lBB := blk_lt BB.out
            have cBB0 := blk_cell BB.out 0 _ rfl
            have cBB1 := blk_cell BB.out 1 _ rfl
            have lBc := blk_lt Bc.out
            have cBc0 := blk_cell Bc.out 0 _ rfl
            have cBc1 := blk_cell Bc.out 1 _ rfl
            have lBd := blk_lt Bd.out
            have cBd0 := blk_cell Bd.out 0 _ rfl
            have cBd1 := blk_cell Bd.out 1 _ rfl
            have lBg := blk_lt Bg.out
            have cBg0 := blk_cell Bg.out 0 _ rfl
            have cBg1 := blk_cell Bg.out 1 _ rfl
            have lBi := blk_lt Bi.out
            have cBi0 := blk_cell Bi.out 0 _ rfl
            have cBi1 := blk_cell Bi.out 1 _ rfl
            have lBk := blk_lt Bk.out
            have cBk0 := blk_cell Bk.out 0 _ rfl
            have cBk1 := blk_cell Bk.out 1 _ rfl
            go_wp2_with fail
            refine (D1.out _).mono ?_
            rintro e w8 ⟨rfl, hb⟩
            clear lBA cBA0 cBA1 lBB cBB0 cBB1 lBc cBc0 cBc1 lBd cBd0 cBd1 lBg cBg0 cBg1 lBi cBi0 cBi1 lBk cBk0 cBk1
            have HB : Hid (Below w7.heap.size w7 (w8.alloc (.cells #[.int .i64 q1, .int .i64 q2] 23))) := Lib.hid (Bal hb _)
            have yBB := blk_next hb BB.out
            have lBB := blk_lt yBB
            have cBB0 := blk_cell yBB 0 _ rfl
            have cBB1 := blk_cell yBB 1 _ rfl
            clear yBB
            clear hb
            replace BA := Lib.hid (blk_next HB.out BA.out)
            replace BB := Lib.hid (blk_next HB.out BB.out)
            replace Bc := Lib.hid (blk_next HB.out Bc.out)
            replace Bd := Lib.hid (blk_next HB.out Bd.out)
            replace Bg := Lib.hid (blk_next HB.out Bg.out)
            replace Bi := Lib.hid (blk_next HB.out Bi.out)
            replace Bk := Lib.hid (blk_next HB.out Bk.out)
            replace NN := Lib.hid (Bgo NN.out HB.out)
            have Bq : Hid ((w8.alloc (.cells #[.int .i64 q1, .int .i64 q2] 23)).heap[w8.heap.size]? = some (.cells #[.int .i64 q1, .int .i64 q2] 23)) := Lib.hid (blk_new w8 _)
            clear HB
            go_wp2_with fail
            clear lBB cBB0 cBB1
            generalize w8.alloc (.cells #[.int .i64 q1, .int .i64 q2] 23) = W8 at *
            generalize w8.heap.size = gq at *
            refine (MB.out _).mono ?_
            rintro e w9 ⟨rfl, hb⟩
            have HB : Hid (Below W8.heap.size W8 (w9.alloc (.cells #[.int .i64 an, .int .i64 ad] 23))) := Lib.hid (Bal hb _)
            have yBA := blk_next hb BA.out
            have lBA := blk_lt yBA
            have cBA0 := blk_cell yBA 0 _ rfl
            have cBA1 := blk_cell yBA 1 _ rfl
            clear yBA
            clear hb
            replace BA := Lib.hid (blk_next HB.out BA.out)
            replace BB := Lib.hid (blk_next HB.out BB.out)
            replace Bc := Lib.hid (blk_next HB.out Bc.out)
            replace Bd := Lib.hid (blk_next HB.out Bd.out)
            replace Bg := Lib.hid (blk_next HB.out Bg.out)
            replace Bi := Lib.hid (blk_next HB.out Bi.out)
            replace Bk := Lib.hid (blk_next HB.out Bk.out)
            replace Bq := Lib.hid (blk_next HB.out Bq.out)
            replace NN := Lib.hid (Bgo NN.out HB.out)
            have Bs : Hid ((w9.alloc (.cells #[.int .i64 an, .int .i64 ad] 23)).heap[w9.heap.size]? = some (.cells #[.int .i64 an, .int .i64 ad] 23)) := Lib.hid (blk_new w9 _)
            clear HB
            go_wp2_with fail
            clear lBA cBA0 cBA1
            generalize w9.alloc (.cells #[.int .i64 an, .int .i64 ad] 23) = W9 at *
            generalize w9.heap.size = gs at *
            refine (alive_calls _).mono ?_
            rintro e w10 ⟨rfl, hb⟩
            replace BA := Lib.hid (blk_next hb BA.out)
            replace BB := Lib.hid (blk_next hb BB.out)
            replace Bc := Lib.hid (blk_next hb Bc.out)
            replace Bd := Lib.hid (blk_next hb Bd.out)
            replace Bg := Lib.hid (blk_next hb Bg.out)
            replace Bi := Lib.hid (blk_next hb Bi.out)
            replace Bk := Lib.hid (blk_next hb Bk.out)
            replace Bq := Lib.hid (blk_next hb Bq.out)
            replace Bs := Lib.hid (blk_next hb Bs.out)
            replace NN := Lib.hid (Bgo NN.out hb)
            clear hb
            go_wp2_with fail
            go_ret
            exact ⟨rfl, NN.out⟩
    · have cz : (cr == 0) = false := by rw [← CZ, Bool.eq_false_iff]; intro h; simp at h; exact ee h.1
      clear CZ
      by_cases kz : k3 = 0
      · subst kz
        obtain ⟨e1, e2, e3⟩ := SB.out _ _ HK.out
        rw [HC.out] at e2 e3
        have AB := Lib.hid (fun W => add_calls k1 k2 bn bd W)
        rw [e1] at AB
        clear e1
        by_cases bz : bn = 0
        · obtain ⟨rfl, rfl, rfl⟩ : 0 = q1 ∧ 0 = q2 ∧ 18 = q3 := by
            have := DZ.out bz
            rw [HQ.out] at this
            simp only [Prod.mk.injEq] at this
            exact ⟨this.1.symm, this.2.1.symm, this.2.2.symm⟩
          have bz' : (bn == 0) = true := by rw [bz]; rfl
          clear bz DZ DB HQ HK SB HC
          refine (C1.out _).mono ?_
          rintro e w7 ⟨rfl, hb⟩
          replace BA := Lib.hid (blk_next hb BA.out)
          replace BB := Lib.hid (blk_next hb BB.out)
          replace Bc := Lib.hid (blk_next hb Bc.out)
          replace Bd := Lib.hid (blk_next hb Bd.out)
          replace Bg := Lib.hid (blk_next hb Bg.out)
          replace Bi := Lib.hid (blk_next hb Bi.out)
          replace Bk := Lib.hid (blk_next hb Bk.out)
          replace NN := Lib.hid (Bgo NN.out hb)
          clear hb
          have lBA := blk_lt BA.out
          have cBA0 := blk_cell BA.out 0 _ rfl
          have cBA1 := blk_cell BA.out 1 _ rfl
          have lBB := blk_lt BB.out
          have cBB0 := blk_cell BB.out 0 _ rfl
          have cBB1 := blk_cell BB.out 1 _ rfl
          have lBc := blk_lt Bc.out
          have cBc0 := blk_cell Bc.out 0 _ rfl
          have cBc1 := blk_cell Bc.out 1 _ rfl
          have lBd := blk_lt Bd.out
          have cBd0 := blk_cell Bd.out 0 _ rfl
          have cBd1 := blk_cell Bd.out 1 _ rfl
          have lBg := blk_lt Bg.out
          have cBg0 := blk_cell Bg.out 0 _ rfl
          have cBg1 := blk_cell Bg.out 1 _ rfl
          have lBi := blk_lt Bi.out
          have cBi0 := blk_cell Bi.out 0 _ rfl
          have cBi1 := blk_cell Bi.out 1 _ rfl
          have lBk := blk_lt Bk.out
          have cBk0 := blk_cell Bk.out 0 _ rfl
          have cBk1 := blk_cell Bk.out 1 _ rfl
          go_wp2_with fail
          refine (AB.out _).mono ?_
          rintro e w8 ⟨rfl, hb⟩
          clear lBA cBA0 cBA1 lBB cBB0 cBB1 lBc cBc0 cBc1 lBd cBd0 cBd1 lBg cBg0 cBg1 lBi cBi0 cBi1 lBk cBk0 cBk1
          have HB : Hid (Below w7.heap.size w7 (w8.alloc (.cells #[.int .i64 an, .int .i64 ad] 23))) := Lib.hid (Bal hb _)
          have yBA := blk_next hb BA.out
          have lBA := blk_lt yBA
          have cBA0 := blk_cell yBA 0 _ rfl
          have cBA1 := blk_cell yBA 1 _ rfl
          clear yBA
          have yBB := blk_next hb BB.out
          have lBB := blk_lt yBB
          have cBB0 := blk_cell yBB 0 _ rfl
          have cBB1 := blk_cell yBB 1 _ rfl
          clear yBB
          have yBk := blk_next hb Bk.out
          have lBk := blk_lt yBk
          have cBk0 := blk_cell yBk 0 _ rfl
          have cBk1 := blk_cell yBk 1 _ rfl
          clear yBk
          clear hb
          replace BA := Lib.hid (blk_next HB.out BA.out)
          replace BB := Lib.hid (blk_next HB.out BB.out)
          replace Bc := Lib.hid (blk_next HB.out Bc.out)
          replace Bd := Lib.hid (blk_next HB.out Bd.out)
          replace Bg := Lib.hid (blk_next HB.out Bg.out)
          replace Bi := Lib.hid (blk_next HB.out Bi.out)
          replace Bk := Lib.hid (blk_next HB.out Bk.out)
          replace NN := Lib.hid (Bgo NN.out HB.out)
          have Bo : Hid ((w8.alloc (.cells #[.int .i64 an, .int .i64 ad] 23)).heap[w8.heap.size]? = some (.cells #[.int .i64 an, .int .i64 ad] 23)) := Lib.hid (blk_new w8 _)
          clear HB
          go_wp2_with fail
          clear lBA cBA0 cBA1 lBB cBB0 cBB1 lBk cBk0 cBk1
          generalize w8.alloc (.cells #[.int .i64 an, .int .i64 ad] 23) = W8 at *
          generalize w8.heap.size = go at *
          refine (D1.out _).mono ?_
          rintro e w9 ⟨rfl, hb⟩
          have HB : Hid (Below W8.heap.size W8 (w9.alloc (.cells #[.int .i64 0, .int .i64 0] 23))) := Lib.hid (Bal hb _)
          have yBB := blk_next hb BB.out
          have lBB := blk_lt yBB
          have cBB0 := blk_cell yBB 0 _ rfl
          have cBB1 := blk_cell yBB 1 _ rfl
          clear yBB
          clear hb
          replace BA := Lib.hid (blk_next HB.out BA.out)
          replace BB := Lib.hid (blk_next HB.out BB.out)
          replace Bc := Lib.hid (blk_next HB.out Bc.out)
          replace Bd := Lib.hid (blk_next HB.out Bd.out)
          replace Bg := Lib.hid (blk_next HB.out Bg.out)
          replace Bi := Lib.hid (blk_next HB.out Bi.out)
          replace Bk := Lib.hid (blk_next HB.out Bk.out)
          replace Bo := Lib.hid (blk_next HB.out Bo.out)
          replace NN := Lib.hid (Bgo NN.out HB.out)
          have Bq : Hid ((w9.alloc (.cells #[.int .i64 0, .int .i64 0] 23)).heap[w9.heap.size]? = some (.cells #[.int .i64 0, .int .i64 0] 23)) := Lib.hid (blk_new w9 _)
          clear HB
          go_wp2_with fail
          clear lBB cBB0 cBB1
          generalize w9.alloc (.cells #[.int .i64 0, .int .i64 0] 23) = W9 at *
          generalize w9.heap.size = gq at *
          refine (alive_calls _).mono ?_
          rintro e w10 ⟨rfl, hb⟩
          replace BA := Lib.hid (blk_next hb BA.out)
          replace BB := Lib.hid (blk_next hb BB.out)
          replace Bc := Lib.hid (blk_next hb Bc.out)
          replace Bd := Lib.hid (blk_next hb Bd.out)
          replace Bg := Lib.hid (blk_next hb Bg.out)
          replace Bi := Lib.hid (blk_next hb Bi.out)
          replace Bk := Lib.hid (blk_next hb Bk.out)
          replace Bo := Lib.hid (blk_next hb Bo.out)
          replace Bq := Lib.hid (blk_next hb Bq.out)
          replace NN := Lib.hid (Bgo NN.out hb)
          clear hb
          go_wp2_with fail
          go_ret
          exact ⟨rfl, NN.out⟩
        have bz' : (bn == 0) = false := by rw [beq_eq_false_iff_ne]; exact bz
        have DR := DB.out _ _ _ bz HQ.out
        clear DZ DB HQ HK SB HC bz
        rcases DR with rfl | ⟨rfl, mb⟩
        · skip
          refine (C1.out _).mono ?_
          rintro e w7 ⟨rfl, hb⟩
          replace BA := Lib.hid (blk_next hb BA.out)
          replace BB := Lib.hid (blk_next hb BB.out)
          replace Bc := Lib.hid (blk_next hb Bc.out)
          replace Bd := Lib.hid (blk_next hb Bd.out)
          replace Bg := Lib.hid (blk_next hb Bg.out)
          replace Bi := Lib.hid (blk_next hb Bi.out)
          replace Bk := Lib.hid (blk_next hb Bk.out)
          replace NN := Lib.hid (Bgo NN.out hb)
          clear hb
          have lBA := blk_lt BA.out
          have cBA0 := blk_cell BA.out 0 _ rfl
          have cBA1 := blk_cell BA.out 1 _ rfl
          have lBB := blk_lt BB.out
          have cBB0 := blk_cell BB.out 0 _ rfl
          have cBB1 := blk_cell BB.out 1 _ rfl
          have lBc := blk_lt Bc.out
          have cBc0 := blk_cell Bc.out 0 _ rfl
          have cBc1 := blk_cell Bc.out 1 _ rfl
          have lBd := blk_lt Bd.out
          have cBd0 := blk_cell Bd.out 0 _ rfl
          have cBd1 := blk_cell Bd.out 1 _ rfl
          have lBg := blk_lt Bg.out
          have cBg0 := blk_cell Bg.out 0 _ rfl
          have cBg1 := blk_cell Bg.out 1 _ rfl
          have lBi := blk_lt Bi.out
          have cBi0 := blk_cell Bi.out 0 _ rfl
          have cBi1 := blk_cell Bi.out 1 _ rfl
          have lBk := blk_lt Bk.out
          have cBk0 := blk_cell Bk.out 0 _ rfl
          have cBk1 := blk_cell Bk.out 1 _ rfl
          go_wp2_with fail
          refine (AB.out _).mono ?_
          rintro e w8 ⟨rfl, hb⟩
          clear lBA cBA0 cBA1 lBB cBB0 cBB1 lBc cBc0 cBc1 lBd cBd0 cBd1 lBg cBg0 cBg1 lBi cBi0 cBi1 lBk cBk0 cBk1
          have HB : Hid (Below w7.heap.size w7 (w8.alloc (.cells #[.int .i64 an, .int .i64 ad] 23))) := Lib.hid (Bal hb _)
          have yBA := blk_next hb BA.out
          have lBA := blk_lt yBA
          have cBA0 := blk_cell yBA 0 _ rfl
          have cBA1 := blk_cell yBA 1 _ rfl
          clear yBA
          have yBB := blk_next hb BB.out
          have lBB := blk_lt yBB
          have cBB0 := blk_cell yBB 0 _ rfl
          have cBB1 := blk_cell yBB 1 _ rfl
          clear yBB
          have yBk := blk_next hb Bk.out
          have lBk := blk_lt yBk
          have cBk0 := blk_cell yBk 0 _ rfl
          have cBk1 := blk_cell yBk 1 _ rfl
          clear yBk
          clear hb
          replace BA := Lib.hid (blk_next HB.out BA.out)
          replace BB := Lib.hid (blk_next HB.out BB.out)
          replace Bc := Lib.hid (blk_next HB.out Bc.out)
          replace Bd := Lib.hid (blk_next HB.out Bd.out)
          replace Bg := Lib.hid (blk_next HB.out Bg.out)
          replace Bi := Lib.hid (blk_next HB.out Bi.out)
          replace Bk := Lib.hid (blk_next HB.out Bk.out)
          replace NN := Lib.hid (Bgo NN.out HB.out)
          have Bo : Hid ((w8.alloc (.cells #[.int .i64 an, .int .i64 ad] 23)).heap[w8.heap.size]? = some (.cells #[.int .i64 an, .int .i64 ad] 23)) := Lib.hid (blk_new w8 _)
          clear HB
          go_wp2_with fail
          clear lBA cBA0 cBA1 lBB cBB0 cBB1 lBk cBk0 cBk1
          generalize w8.alloc (.cells #[.int .i64 an, .int .i64 ad] 23) = W8 at *
          generalize w8.heap.size = go at *
          refine (D1.out _).mono ?_
          rintro e w9 ⟨rfl, hb⟩
          have HB : Hid (Below W8.heap.size W8 (w9.alloc (.cells #[.int .i64 q1, .int .i64 q2] 23))) := Lib.hid (Bal hb _)
          have yBB := blk_next hb BB.out
          have lBB := blk_lt yBB
          have cBB0 := blk_cell yBB 0 _ rfl
          have cBB1 := blk_cell yBB 1 _ rfl
          clear yBB
          clear hb
          replace BA := Lib.hid (blk_next HB.out BA.out)
          replace BB := Lib.hid (blk_next HB.out BB.out)
          replace Bc := Lib.hid (blk_next HB.out Bc.out)
          replace Bd := Lib.hid (blk_next HB.out Bd.out)
          replace Bg := Lib.hid (blk_next HB.out Bg.out)
          replace Bi := Lib.hid (blk_next HB.out Bi.out)
          replace Bk := Lib.hid (blk_next HB.out Bk.out)
          replace Bo := Lib.hid (blk_next HB.out Bo.out)
          replace NN := Lib.hid (Bgo NN.out HB.out)
          have Bq : Hid ((w9.alloc (.cells #[.int .i64 q1, .int .i64 q2] 23)).heap[w9.heap.size]? = some (.cells #[.int .i64 q1, .int .i64 q2] 23)) := Lib.hid (blk_new w9 _)
          clear HB
          go_wp2_with fail
          clear lBB cBB0 cBB1
          generalize w9.alloc (.cells #[.int .i64 q1, .int .i64 q2] 23) = W9 at *
          generalize w9.heap.size = gq at *
          refine (alive_calls _).mono ?_
          rintro e w10 ⟨rfl, hb⟩
          replace BA := Lib.hid (blk_next hb BA.out)
          replace BB := Lib.hid (blk_next hb BB.out)
          replace Bc := Lib.hid (blk_next hb Bc.out)
          replace Bd := Lib.hid (blk_next hb Bd.out)
          replace Bg := Lib.hid (blk_next hb Bg.out)
          replace Bi := Lib.hid (blk_next hb Bi.out)
          replace Bk := Lib.hid (blk_next hb Bk.out)
          replace Bo := Lib.hid (blk_next hb Bo.out)
          replace Bq := Lib.hid (blk_next hb Bq.out)
          replace NN := Lib.hid (Bgo NN.out hb)
          clear hb
          go_wp2_with fail
          go_ret
          exact ⟨rfl, NN.out⟩
        · have MB := Lib.hid (fun W => mul_calls q1 q2 bn bd W)
          rw [mb] at MB
          clear mb
          refine (C1.out _).mono ?_
          rintro e w7 ⟨rfl, hb⟩
          replace BA := Lib.hid (blk_next hb BA.out)
          replace BB := Lib.hid (blk_next hb BB.out)
          replace Bc := Lib.hid (blk_next hb Bc.out)
          replace Bd := Lib.hid (blk_next hb Bd.out)
          replace Bg := Lib.hid (blk_next hb Bg.out)
          replace Bi := Lib.hid (blk_next hb Bi.out)
          replace Bk := Lib.hid (blk_next hb Bk.out)
          replace NN := Lib.hid (Bgo NN.out hb)
          clear hb
          have lBA := blk_lt BA.out
          have cBA0 := blk_cell BA.out 0 _ rfl
          have cBA1 := blk_cell BA.out 1 _ rfl
          have lBB := blk_lt BB.out
          have cBB0 := blk_cell BB.out 0 _ rfl
          have cBB1 := blk_cell BB.out 1 _ rfl
          have lBc := blk_lt Bc.out
          have cBc0 := blk_cell Bc.out 0 _ rfl
          have cBc1 := blk_cell Bc.out 1 _ rfl
          have lBd := blk_lt Bd.out
          have cBd0 := blk_cell Bd.out 0 _ rfl
          have cBd1 := blk_cell Bd.out 1 _ rfl
          have lBg := blk_lt Bg.out
          have cBg0 := blk_cell Bg.out 0 _ rfl
          have cBg1 := blk_cell Bg.out 1 _ rfl
          have lBi := blk_lt Bi.out
          have cBi0 := blk_cell Bi.out 0 _ rfl
          have cBi1 := blk_cell Bi.out 1 _ rfl
          have lBk := blk_lt Bk.out
          have cBk0 := blk_cell Bk.out 0 _ rfl
          have cBk1 := blk_cell Bk.out 1 _ rfl
          go_wp2_with fail
          refine (AB.out _).mono ?_
          rintro e w8 ⟨rfl, hb⟩
          clear lBA cBA0 cBA1 lBB cBB0 cBB1 lBc cBc0 cBc1 lBd cBd0 cBd1 lBg cBg0 cBg1 lBi cBi0 cBi1 lBk cBk0 cBk1
          have HB : Hid (Below w7.heap.size w7 (w8.alloc (.cells #[.int .i64 an, .int .i64 ad] 23))) := Lib.hid (Bal hb _)
          have yBA := blk_next hb BA.out
          have lBA := blk_lt yBA
          have cBA0 := blk_cell yBA 0 _ rfl
          have cBA1 := blk_cell yBA 1 _ rfl
          clear yBA
          have yBB := blk_next hb BB.out
          have lBB := blk_lt yBB
          have cBB0 := blk_cell yBB 0 _ rfl
          have cBB1 := blk_cell yBB 1 _ rfl
          clear yBB
          have yBk := blk_next hb Bk.out
          have lBk := blk_lt yBk
          have cBk0 := blk_cell yBk 0 _ rfl
          have cBk1 := blk_cell yBk 1 _ rfl
          clear yBk
          clear hb
          replace BA := Lib.hid (blk_next HB.out BA.out)
          replace BB := Lib.hid (blk_next HB.out BB.out)
          replace Bc := Lib.hid (blk_next HB.out Bc.out)
          replace Bd := Lib.hid (blk_next HB.out Bd.out)
          replace Bg := Lib.hid (blk_next HB.out Bg.out)
          replace Bi := Lib.hid (blk_next HB.out Bi.out)
          replace Bk := Lib.hid (blk_next HB.out Bk.out)
          replace NN := Lib.hid (Bgo NN.out HB.out)
          have Bo : Hid ((w8.alloc (.cells #[.int .i64 an, .int .i64 ad] 23)).heap[w8.heap.size]? = some (.cells #[.int .i64 an, .int .i64 ad] 23)) := Lib.hid (blk_new w8 _)
          clear HB
          go_wp2_with fail
          clear lBA cBA0 cBA1 lBB cBB0 cBB1 lBk cBk0 cBk1
          generalize w8.alloc (.cells #[.int .i64 an, .int .i64 ad] 23) = W8 at *
          generalize w8.heap.size = go at *
          refine (D1.out _).mono ?_
          rintro e w9 ⟨rfl, hb⟩
          have HB : Hid (Below W8.heap.size W8 (w9.alloc (.cells #[.int .i64 q1, .int .i64 q2] 23))) := Lib.hid (Bal hb _)
          have yBB := blk_next hb BB.out
          have lBB := blk_lt yBB
          have cBB0 := blk_cell yBB 0 _ rfl
          have cBB1 := blk_cell yBB 1 _ rfl
          clear yBB
          clear hb
          replace BA := Lib.hid (blk_next HB.out BA.out)
          replace BB := Lib.hid (blk_next HB.out BB.out)
          replace Bc := Lib.hid (blk_next HB.out Bc.out)
          replace Bd := Lib.hid (blk_next HB.out Bd.out)
          replace Bg := Lib.hid (blk_next HB.out Bg.out)
          replace Bi := Lib.hid (blk_next HB.out Bi.out)
          replace Bk := Lib.hid (blk_next HB.out Bk.out)
          replace Bo := Lib.hid (blk_next HB.out Bo.out)
          replace NN := Lib.hid (Bgo NN.out HB.out)
          have Bq : Hid ((w9.alloc (.cells #[.int .i64 q1, .int .i64 q2] 23)).heap[w9.heap.size]? = some (.cells #[.int .i64 q1, .int .i64 q2] 23)) := Lib.hid (blk_new w9 _)
          clear HB
          go_wp2_with fail
          clear lBB cBB0 cBB1
          generalize w9.alloc (.cells #[.int .i64 q1, .int .i64 q2] 23) = W9 at *
          generalize w9.heap.size = gq at *
          refine (MB.out _).mono ?_
          rintro e w10 ⟨rfl, hb⟩
          have HB : Hid (Below W9.heap.size W9 (w10.alloc (.cells #[.int .i64 an, .int .i64 ad] 23))) := Lib.hid (Bal hb _)
          have yBA := blk_next hb BA.out
          have lBA := blk_lt yBA
          have cBA0 := blk_cell yBA 0 _ rfl
          have cBA1 := blk_cell yBA 1 _ rfl
          clear yBA
          clear hb
          replace BA := Lib.hid (blk_next HB.out BA.out)
          replace BB := Lib.hid (blk_next HB.out BB.out)
          replace Bc := Lib.hid (blk_next HB.out Bc.out)
          replace Bd := Lib.hid (blk_next HB.out Bd.out)
          replace Bg := Lib.hid (blk_next HB.out Bg.out)
          replace Bi := Lib.hid (blk_next HB.out Bi.out)
          replace Bk := Lib.hid (blk_next HB.out Bk.out)
          replace Bo := Lib.hid (blk_next HB.out Bo.out)
          replace Bq := Lib.hid (blk_next HB.out Bq.out)
          replace NN := Lib.hid (Bgo NN.out HB.out)
          have Bs : Hid ((w10.alloc (.cells #[.int .i64 an, .int .i64 ad] 23)).heap[w10.heap.size]? = some (.cells #[.int .i64 an, .int .i64 ad] 23)) := Lib.hid (blk_new w10 _)
          clear HB
          go_wp2_with fail
          clear lBA cBA0 cBA1
          generalize w10.alloc (.cells #[.int .i64 an, .int .i64 ad] 23) = W10 at *
          generalize w10.heap.size = gs at *
          refine (alive_calls _).mono ?_
          rintro e w11 ⟨rfl, hb⟩
          replace BA := Lib.hid (blk_next hb BA.out)
          replace BB := Lib.hid (blk_next hb BB.out)
          replace Bc := Lib.hid (blk_next hb Bc.out)
          replace Bd := Lib.hid (blk_next hb Bd.out)
          replace Bg := Lib.hid (blk_next hb Bg.out)
          replace Bi := Lib.hid (blk_next hb Bi.out)
          replace Bk := Lib.hid (blk_next hb Bk.out)
          replace Bo := Lib.hid (blk_next hb Bo.out)
          replace Bq := Lib.hid (blk_next hb Bq.out)
          replace Bs := Lib.hid (blk_next hb Bs.out)
          replace NN := Lib.hid (Bgo NN.out hb)
          clear hb
          go_wp2_with fail
          go_ret
          exact ⟨rfl, NN.out⟩
      · have kz' : (k3 == 0) = false := by rw [beq_eq_false_iff_ne]; exact kz
        clear kz
        by_cases bz : bn = 0
        · obtain ⟨rfl, rfl, rfl⟩ : 0 = q1 ∧ 0 = q2 ∧ 18 = q3 := by
            have := DZ.out bz
            rw [HQ.out] at this
            simp only [Prod.mk.injEq] at this
            exact ⟨this.1.symm, this.2.1.symm, this.2.2.symm⟩
          have bz' : (bn == 0) = true := by rw [bz]; rfl
          clear bz DZ DB HQ HK SB HC
          refine (C1.out _).mono ?_
          rintro e w7 ⟨rfl, hb⟩
          replace BA := Lib.hid (blk_next hb BA.out)
          replace BB := Lib.hid (blk_next hb BB.out)
          replace Bc := Lib.hid (blk_next hb Bc.out)
          replace Bd := Lib.hid (blk_next hb Bd.out)
          replace Bg := Lib.hid (blk_next hb Bg.out)
          replace Bi := Lib.hid (blk_next hb Bi.out)
          replace Bk := Lib.hid (blk_next hb Bk.out)
          replace NN := Lib.hid (Bgo NN.out hb)
          clear hb
          have lBA := blk_lt BA.out
          have cBA0 := blk_cell BA.out 0 _ rfl
          have cBA1 := blk_cell BA.out 1 _ rfl
          have lBB := blk_lt BB.out
          have cBB0 := blk_cell BB.out 0 _ rfl
          have cBB1 := blk_cell BB.out 1 _ rfl
          have lBc := blk_lt Bc.out
          have cBc0 := blk_cell Bc.out 0 _ rfl
          have cBc1 := blk_cell Bc.out 1 _ rfl
          have lBd := blk_lt Bd.out
          have cBd0 := blk_cell Bd.out 0 _ rfl
          have cBd1 := blk_cell Bd.out 1 _ rfl
          have lBg := blk_lt Bg.out
          have cBg0 := blk_cell Bg.out 0 _ rfl
          have cBg1 := blk_cell Bg.out 1 _ rfl
          have lBi := blk_lt Bi.out
          have cBi0 := blk_cell Bi.out 0 _ rfl
          have cBi1 := blk_cell Bi.out 1 _ rfl
          have lBk := blk_lt Bk.out
          have cBk0 := blk_cell Bk.out 0 _ rfl
          have cBk1 := blk_cell Bk.out 1 _ rfl
          go_wp2_with fail
          refine (D1.out _).mono ?_
          rintro e w8 ⟨rfl, hb⟩
          clear lBA cBA0 cBA1 lBB cBB0 cBB1 lBc cBc0 cBc1 lBd cBd0 cBd1 lBg cBg0 cBg1 lBi cBi0 cBi1 lBk cBk0 cBk1
          have HB : Hid (Below w7.heap.size w7 (w8.alloc (.cells #[.int .i64 0, .int .i64 0] 23))) := Lib.hid (Bal hb _)
          have yBB := blk_next hb BB.out
          have lBB := blk_lt yBB
          have cBB0 := blk_cell yBB 0 _ rfl
          have cBB1 := blk_cell yBB 1 _ rfl
          clear yBB
          clear hb
          replace BA := Lib.hid (blk_next HB.out BA.out)
          replace BB := Lib.hid (blk_next HB.out BB.out)
          replace Bc := Lib.hid (blk_next HB.out Bc.out)
          replace Bd := Lib.hid (blk_next HB.out Bd.out)
          replace Bg := Lib.hid (blk_next HB.out Bg.out)
          replace Bi := Lib.hid (blk_next HB.out Bi.out)
          replace Bk := Lib.hid (blk_next HB.out Bk.out)
          replace NN := Lib.hid (Bgo NN.out HB.out)
          have Bq : Hid ((w8.alloc (.cells #[.int .i64 0, .int .i64 0] 23)).heap[w8.heap.size]? = some (.cells #[.int .i64 0, .int .i64 0] 23)) := Lib.hid (blk_new w8 _)
          clear HB
          go_wp2_with fail
          clear lBB cBB0 cBB1
          generalize w8.alloc (.cells #[.int .i64 0, .int .i64 0] 23) = W8 at *
          generalize w8.heap.size = gq at *
          refine (alive_calls _).mono ?_
          rintro e w9 ⟨rfl, hb⟩
          replace BA := Lib.hid (blk_next hb BA.out)
          replace BB := Lib.hid (blk_next hb BB.out)
          replace Bc := Lib.hid (blk_next hb Bc.out)
          replace Bd := Lib.hid (blk_next hb Bd.out)
          replace Bg := Lib.hid (blk_next hb Bg.out)
          replace Bi := Lib.hid (blk_next hb Bi.out)
          replace Bk := Lib.hid (blk_next hb Bk.out)
          replace Bq := Lib.hid (blk_next hb Bq.out)
          replace NN := Lib.hid (Bgo NN.out hb)
          clear hb
          go_wp2_with fail
          go_ret
          exact ⟨rfl, NN.out⟩
        have bz' : (bn == 0) = false := by rw [beq_eq_false_iff_ne]; exact bz
        have DR := DB.out _ _ _ bz HQ.out
        clear DZ DB HQ HK SB HC bz
        rcases DR with rfl | ⟨rfl, mb⟩
        · skip
          refine (C1.out _).mono ?_
          rintro e w7 ⟨rfl, hb⟩
          replace BA := Lib.hid (blk_next hb BA.out)
          replace BB := Lib.hid (blk_next hb BB.out)
          replace Bc := Lib.hid (blk_next hb Bc.out)
          replace Bd := Lib.hid (blk_next hb Bd.out)
          replace Bg := Lib.hid (blk_next hb Bg.out)
          replace Bi := Lib.hid (blk_next hb Bi.out)
          replace Bk := Lib.hid (blk_next hb Bk.out)
          replace NN := Lib.hid (Bgo NN.out hb)
          clear hb
          have lBA := blk_lt BA.out
          have cBA0 := blk_cell BA.out 0 _ rfl
          have cBA1 := blk_cell BA.out 1 _ rfl
          have lBB := blk_lt BB.out
          have cBB0 := blk_cell BB.out 0 _ rfl
          have cBB1 := blk_cell BB.out 1 _ rfl
          have lBc := blk_lt Bc.out
          have cBc0 := blk_cell Bc.out 0 _ rfl
          have cBc1 := blk_cell Bc.out 1 _ rfl
          have lBd := blk_lt Bd.out
          have cBd0 := blk_cell Bd.out 0 _ rfl
          have cBd1 := blk_cell Bd.out 1 _ rfl
          have lBg := blk_lt Bg.out
          have cBg0 := blk_cell Bg.out 0 _ rfl
          have cBg1 := blk_cell Bg.out 1 _ rfl
          have lBi := blk_lt Bi.out
          have cBi0 := blk_cell Bi.out 0 _ rfl
          have cBi1 := blk_cell Bi.out 1 _ rfl
          have lBk := blk_lt Bk.out
          have cBk0 := blk_cell Bk.out 0 _ rfl
          have cBk1 := blk_cell Bk.out 1 _ rfl
          go_wp2_with fail
          refine (D1.out _).mono ?_
          rintro e w8 ⟨rfl, hb⟩
          clear lBA cBA0 cBA1 lBB cBB0 cBB1 lBc cBc0 cBc1 lBd cBd0 cBd1 lBg cBg0 cBg1 lBi cBi0 cBi1 lBk cBk0 cBk1
          have HB : Hid (Below w7.heap.size w7 (w8.alloc (.cells #[.int .i64 q1, .int .i64 q2] 23))) := Lib.hid (Bal hb _)
          have yBB := blk_next hb BB.out
          have lBB := blk_lt yBB
          have cBB0 := blk_cell yBB 0 _ rfl
          have cBB1 := blk_cell yBB 1 _ rfl
          clear yBB
          clear hb
          replace BA := Lib.hid (blk_next HB.out BA.out)
          replace BB := Lib.hid (blk_next HB.out BB.out)
          replace Bc := Lib.hid (blk_next HB.out Bc.out)
          replace Bd := Lib.hid (blk_next HB.out Bd.out)
          replace Bg := Lib.hid (blk_next HB.out Bg.out)
          replace Bi := Lib.hid (blk_next HB.out Bi.out)
          replace Bk := Lib.hid (blk_next HB.out Bk.out)
          replace NN := Lib.hid (Bgo NN.out HB.out)
          have Bq : Hid ((w8.alloc (.cells #[.int .i64 q1, .int .i64 q2] 23)).heap[w8.heap.size]? = some (.cells #[.int .i64 q1, .int .i64 q2] 23)) := Lib.hid (blk_new w8 _)
          clear HB
          go_wp2_with fail
          clear lBB cBB0 cBB1
          generalize w8.alloc (.cells #[.int .i64 q1, .int .i64 q2] 23) = W8 at *
          generalize w8.heap.size = gq at *
          refine (alive_calls _).mono ?_
          rintro e w9 ⟨rfl, hb⟩
          replace BA := Lib.hid (blk_next hb BA.out)
          replace BB := Lib.hid (blk_next hb BB.out)
          replace Bc := Lib.hid (blk_next hb Bc.out)
          replace Bd := Lib.hid (blk_next hb Bd.out)
          replace Bg := Lib.hid (blk_next hb Bg.out)
          replace Bi := Lib.hid (blk_next hb Bi.out)
          replace Bk := Lib.hid (blk_next hb Bk.out)
          replace Bq := Lib.hid (blk_next hb Bq.out)
          replace NN := Lib.hid (Bgo NN.out hb)
          clear hb
          go_wp2_with fail
          go_ret
          exact ⟨rfl, NN.out⟩
        · have MB := Lib.hid (fun W => mul_calls q1 q2 bn bd W)
          rw [mb] at MB
          clear mb
          refine (C1.out _).mono ?_
          rintro e w7 ⟨rfl, hb⟩
          replace BA := Lib.hid (blk_next hb BA.out)
          replace BB := Lib.hid (blk_next hb BB.out)
          replace Bc := Lib.hid (blk_next hb Bc.out)
          replace Bd := Lib.hid (blk_next hb Bd.out)
          replace Bg := Lib.hid (blk_next hb Bg.out)
          replace Bi := Lib.hid (blk_next hb Bi.out)
          replace Bk := Lib.hid (blk_next hb Bk.out)
          replace NN := Lib.hid (Bgo NN.out hb)
          clear hb
          have lBA := blk_lt BA.out
          have cBA0 := blk_cell BA.out 0 _ rfl
          have cBA1 := blk_cell BA.out 1 _ rfl
          have lBB := blk_lt BB.out
          have cBB0 := blk_cell BB.out 0 _ rfl
          have cBB1 := blk_cell BB.out 1 _ rfl
          have lBc := blk_lt Bc.out
          have cBc0 := blk_cell Bc.out 0 _ rfl
          have cBc1 := blk_cell Bc.out 1 _ rfl
          have lBd := blk_lt Bd.out
          have cBd0 := blk_cell Bd.out 0 _ rfl
          have cBd1 := blk_cell Bd.out 1 _ rfl
          have lBg := blk_lt Bg.out
          have cBg0 := blk_cell Bg.out 0 _ rfl
          have cBg1 := blk_cell Bg.out 1 _ rfl
          have lBi := blk_lt Bi.out
          have cBi0 := blk_cell Bi.out 0 _ rfl
          have cBi1 := blk_cell Bi.out 1 _ rfl
          have lBk := blk_lt Bk.out
          have cBk0 := blk_cell Bk.out 0 _ rfl
          have cBk1 := blk_cell Bk.out 1 _ rfl
          go_wp2_with fail
          refine (D1.out _).mono ?_
          rintro e w8 ⟨rfl, hb⟩
          clear lBA cBA0 cBA1 lBB cBB0 cBB1 lBc cBc0 cBc1 lBd cBd0 cBd1 lBg cBg0 cBg1 lBi cBi0 cBi1 lBk cBk0 cBk1
          have HB : Hid (Below w7.heap.size w7 (w8.alloc (.cells #[.int .i64 q1, .int .i64 q2] 23))) := Lib.hid (Bal hb _)
          have yBB := blk_next hb BB.out
          have lBB := blk_lt yBB
          have cBB0 := blk_cell yBB 0 _ rfl
          have cBB1 := blk_cell yBB 1 _ rfl
          clear yBB
          clear hb
          replace BA := Lib.hid (blk_next HB.out BA.out)
          replace BB := Lib.hid (blk_next HB.out BB.out)
          replace Bc := Lib.hid (blk_next HB.out Bc.out)
          replace Bd := Lib.hid (blk_next HB.out Bd.out)
          replace Bg := Lib.hid (blk_next HB.out Bg.out)
          replace Bi := Lib.hid (blk_next HB.out Bi.out)
          replace Bk := Lib.hid (blk_next HB.out Bk.out)
          replace NN := Lib.hid (Bgo NN.out HB.out)
          have Bq : Hid ((w8.alloc (.cells #[.int .i64 q1, .int .i64 q2] 23)).heap[w8.heap.size]? = some (.cells #[.int .i64 q1, .int .i64 q2] 23)) := Lib.hid (blk_new w8 _)
          clear HB
          go_wp2_with fail
          clear lBB cBB0 cBB1
          generalize w8.alloc (.cells #[.int .i64 q1, .int .i64 q2] 23) = W8 at *
          generalize w8.heap.size = gq at *
          refine (MB.out _).mono ?_
          rintro e w9 ⟨rfl, hb⟩
          have HB : Hid (Below W8.heap.size W8 (w9.alloc (.cells #[.int .i64 an, .int .i64 ad] 23))) := Lib.hid (Bal hb _)
          have yBA := blk_next hb BA.out
          have lBA := blk_lt yBA
          have cBA0 := blk_cell yBA 0 _ rfl
          have cBA1 := blk_cell yBA 1 _ rfl
          clear yBA
          clear hb
          replace BA := Lib.hid (blk_next HB.out BA.out)
          replace BB := Lib.hid (blk_next HB.out BB.out)
          replace Bc := Lib.hid (blk_next HB.out Bc.out)
          replace Bd := Lib.hid (blk_next HB.out Bd.out)
          replace Bg := Lib.hid (blk_next HB.out Bg.out)
          replace Bi := Lib.hid (blk_next HB.out Bi.out)
          replace Bk := Lib.hid (blk_next HB.out Bk.out)
          replace Bq := Lib.hid (blk_next HB.out Bq.out)
          replace NN := Lib.hid (Bgo NN.out HB.out)
          have Bs : Hid ((w9.alloc (.cells #[.int .i64 an, .int .i64 ad] 23)).heap[w9.heap.size]? = some (.cells #[.int .i64 an, .int .i64 ad] 23)) := Lib.hid (blk_new w9 _)
          clear HB
          go_wp2_with fail
          clear lBA cBA0 cBA1
          generalize w9.alloc (.cells #[.int .i64 an, .int .i64 ad] 23) = W9 at *
          generalize w9.heap.size = gs at *
          refine (alive_calls _).mono ?_
          rintro e w10 ⟨rfl, hb⟩
          replace BA := Lib.hid (blk_next hb BA.out)
          replace BB := Lib.hid (blk_next hb BB.out)
          replace Bc := Lib.hid (blk_next hb Bc.out)
          replace Bd := Lib.hid (blk_next hb Bd.out)
          replace Bg := Lib.hid (blk_next hb Bg.out)
          replace Bi := Lib.hid (blk_next hb Bi.out)
          replace Bk := Lib.hid (blk_next hb Bk.out)
          replace Bq := Lib.hid (blk_next hb Bq.out)
          replace Bs := Lib.hid (blk_next hb Bs.out)
          replace NN := Lib.hid (Bgo NN.out hb)
          clear hb
          go_wp2_with fail
          go_ret
          exact ⟨rfl, NN.out⟩

set_option maxRecDepth 100000 in
theorem lifted (os : Os) (started : os.Started) (H : Type) (enc : TypeId × Value → H) :
    ReturnsInHanded {} Try.checked os 6 .any (Rows.fracFieldSpec.pre6 enc Try.prog Try.f6 Rows.fracFieldRow.domain false) (Rows.fracFieldSpec.post enc Try.prog Try.f6 false true false false) := by
  refine returnsInHanded_of_change (C := Try.checked) own started (by kernel_rfl) Try.func6
    (ChangeSpec.witness6 (enc := enc) (C := Try.checked) false ⟨#[], #[.agg #[.int .i64 0, .int .i64 0], .agg #[.int .i64 0, .int .i64 0]], []⟩ 8 (by kernel_rfl) (by kernel_rfl) (by kernel_rfl) (by kernel_rfl)) ?_
  intro W base args ds gs before hval0 hW hcnd _
  have hval : ∀ (j : Nat) t v, Try.f6.params[j]? = some t → args[j]? = some v → Value.okWide Try.prog W .any base t v := hval0
  have hW' := hW
  obtain ⟨p, q, hA0, hV, rfl, hfz, hnd⟩ := hW
  have hA : DataW.TrodAll enc Try.prog W 0 (fun _ => true) true Try.f6.params.toList args.toList ds p := hA0
  rw [Try.params6] at hA hval
  obtain ⟨v0, vs0, d0, ds0, p0, q0, hargs, rfl, rfl, h0, r0⟩ := trodAll_cons hA
  obtain ⟨v1, vs1, d1, ds1, p1, q1, rfl, rfl, rfl, h1, r1⟩ := trodAll_cons r0
  obtain ⟨rfl, rfl, rfl⟩ := trodAll_nil r1
  obtain rfl : args = #[v0, v1] := by cases args; simp_all
  obtain ⟨rfl, rfl⟩ := trodVars_none hV
  have k0 := h0
  have lt0 : ∀ x ∈ p0, x.block < W.heap.size := by obtain ⟨m, hm⟩ := k0; exact DataW.trod_lt m _ _ _ hm
  obtain ⟨c0_0, c1_0, y0_0, y1_0, m0, rfl, _, _, t0_0, t1_0⟩ := open_agg2 Try.underlying23 (by kernel_rfl) (show Try.prog.cellsOf 23 = 2 by kernel_rfl) (hval 0 23 v0 rfl rfl) h0
  obtain ⟨an, e0_0, _, wan⟩ := DataW.trod_int Try.underlying2 t0_0
  simp only [List.cons.injEq, and_true] at e0_0
  subst e0_0
  obtain ⟨ad, e1_0, _, wad⟩ := DataW.trod_int Try.underlying2 t1_0
  simp only [List.cons.injEq, and_true] at e1_0
  subst e1_0
  have k1 := h1
  have lt1 : ∀ x ∈ p1, x.block < W.heap.size := by obtain ⟨m, hm⟩ := k1; exact DataW.trod_lt m _ _ _ hm
  obtain ⟨c0_1, c1_1, y0_1, y1_1, m1, rfl, _, _, t0_1, t1_1⟩ := open_agg2 Try.underlying23 (by kernel_rfl) (show Try.prog.cellsOf 23 = 2 by kernel_rfl) (hval 1 23 v1 rfl rfl) h1
  obtain ⟨bn, e0_1, _, wbn⟩ := DataW.trod_int Try.underlying2 t0_1
  simp only [List.cons.injEq, and_true] at e0_1
  subst e0_1
  obtain ⟨bd, e1_1, _, wbd⟩ := DataW.trod_int Try.underlying2 t1_1
  simp only [List.cons.injEq, and_true] at e1_1
  subst e1_1
  clear hA0 hval0
  refine (walk an ad bn bd W).mono fun e W' ⟨he, bel⟩ => ?_
  subst he
  exact ⟨_, rfl, _, _, _, [], _, [], hW', trodAll_mk1 (shut_bool Try.underlying4 _), (trodAll_cons_mk (Below.trod laidOut (by kernel_rfl) (of_decide_eq_true (by kernel_rfl)) k0 bel lt0) (trodAll_cons_mk (Below.trod laidOut (by kernel_rfl) (of_decide_eq_true (by kernel_rfl)) k1 bel lt1) trodAll_mk0)), rfl, bel.frame _, fun h => by cases h⟩

theorem over : Rows.fracFieldRow.holds Try.pinned (OpenSpec.ofChange Rows.fracFieldSpec) :=
  OpenClaim.holds_of_wide 6 Try.f6 rfl rfl rfl rfl rfl rfl rfl ⟨rfl, rfl, rfl, rfl, rfl⟩ rfl rfl rfl rfl rfl (by kernel_rfl) Try.func6 (by kernel_rfl)
    (of_decide_eq_true (by kernel_rfl)) (by unfold Func.isWrapper; first | (rw [if_pos (by decide +kernel)]; kernel_rfl) | (rw [if_neg (by decide +kernel)]; exact ⟨rfl, rfl⟩))
    (fun os started H enc _ => lifted os started H enc)

theorem proved : Rows.FracFieldSaid := over
#print axioms proved
end Go.Proofs.Ytpeoecgehdicmaa.fracField
