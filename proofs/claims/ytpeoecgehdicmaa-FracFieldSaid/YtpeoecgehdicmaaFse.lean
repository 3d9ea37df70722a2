/- Contracts of layer 1: Add, Sub, Cmp of the program; Cmp, Floor of the reference. -/
import Derived.Test.YtpeoecgehdicmaaFsd
import Derived.Test.YtpeoecgehdicmaaFrv
namespace Go.Proofs.Ytpeoecgehdicmaa
open Go.ChangeShapes Go.WideShapes Go.ChangeAt Go.RowKit
set_option linter.unusedVariables false
attribute [local go_sem ↓] Go.wp_at_zero Go.wp_at_succ

set_option maxRecDepth 100000 in
set_option maxHeartbeats 8000000 in
theorem add_calls (an ad bn bd : Int) (w : World) :
    Calls Try.prog 21 #[Fv an ad, Fv bn bd] w fun e w' => e = .returned (Rv (addR an ad bn bd)) ∧ Below w.heap.size w w' := by
  have C1 := Lib.hid (fun W => both_calls an ad bn bd W)
  by_cases ck : errB an ad bn bd = 0
  rotate_left
  · have F : Hid (addR an ad bn bd = (0, 0, errB an ad bn bd)) := Lib.hid (by unfold addR; rw [if_neg ck])
    have ck' : (errB an ad bn bd != 0) = true := by rw [bne_iff_ne]; exact ck
    generalize addR an ad bn bd = res at *
    generalize errB an ad bn bd = er at *
    clear ck
    go_enter Try.func21, Try.ntmps21
    go_wp2_with fail
    refine (C1.out _).mono ?_
    rintro e w1 ⟨rfl, hb⟩
    have K := Lib.hid ((PK.init w an ad bn bd).next hb)
    clear hb
    have z0 := blk_cell K.out.z 0 _ rfl
    have z1 := blk_cell K.out.z 1 _ rfl
    have f0 := blk_frozen K.out.z 0
    have f1 := blk_frozen K.out.z 1
    go_wp2_with fail
    have e1 := blk_cell (blk_set (blk_set K.out.z 0 (.int .i64 0)) 1 (.int .i64 0)) 0 _ rfl
    have e2 := blk_cell (blk_set (blk_set K.out.z 0 (.int .i64 0)) 1 (.int .i64 0)) 1 _ rfl
    refine bodyPost_ret (v := .tuple #[Fv 0 0, .int .i64 er]) (by simp [results, Try.results21, go_sem, e1, e2]) rfl ⟨by rw [F.out], Bset1 (Bset1 K.out.n (by omega) _ _) (by omega) _ _⟩
  · have F : Hid (addR an ad bn bd = addF an ad bn bd) := Lib.hid (by unfold addR; rw [if_pos ck])
    obtain ⟨va, vb⟩ := errB_ok ck
    rw [ck] at C1
    have PC := Lib.hid (fun W => sum_calls an ad bn bd W va vb)
    generalize addR an ad bn bd = res at *
    generalize addF an ad bn bd = r at *
    obtain ⟨r1, r2, r3⟩ := r
    have n1 := vb.n1
    have n2 := vb.n2
    clear ck va vb
    go_enter Try.func21, Try.ntmps21
    go_wp2_with fail
    refine (C1.out _).mono ?_
    rintro e w1 ⟨rfl, hb⟩
    have K := Lib.hid ((PK.init w an ad bn bd).next hb)
    clear hb
    have a0 := blk_cell K.out.a 0 _ rfl
    have a1 := blk_cell K.out.a 1 _ rfl
    have b0 := blk_cell K.out.b 0 _ rfl
    have b1 := blk_cell K.out.b 1 _ rfl
    go_wp2_with fail
    refine (PC.out _).mono ?_
    rintro e w2 ⟨rfl, hb⟩
    replace K := Lib.hid (K.out.next hb)
    clear hb
    clear a0 a1 b0 b1
    have z0 := blk_cell K.out.z 0 _ rfl
    have z1 := blk_cell K.out.z 1 _ rfl
    have f0 := blk_frozen K.out.z 0
    have f1 := blk_frozen K.out.z 1
    go_wp2_with fail
    have e1 := blk_cell (blk_set (blk_set K.out.z 0 (.int .i64 r1)) 1 (.int .i64 r2)) 0 _ rfl
    have e2 := blk_cell (blk_set (blk_set K.out.z 0 (.int .i64 r1)) 1 (.int .i64 r2)) 1 _ rfl
    refine bodyPost_ret (v := .tuple #[Fv r1 r2, .int .i64 r3]) (by simp [results, Try.results21, go_sem, e1, e2]) rfl ⟨by rw [F.out], Bset1 (Bset1 K.out.n (by omega) _ _) (by omega) _ _⟩
set_option maxRecDepth 100000 in
set_option maxHeartbeats 8000000 in
theorem sub_calls (an ad bn bd : Int) (w : World) :
    Calls Try.prog 23 #[Fv an ad, Fv bn bd] w fun e w' => e = .returned (Rv (subR an ad bn bd)) ∧ Below w.heap.size w w' := by
  have C1 := Lib.hid (fun W => both_calls an ad bn bd W)
  by_cases ck : errB an ad bn bd = 0
  rotate_left
  · have F : Hid (subR an ad bn bd = (0, 0, errB an ad bn bd)) := Lib.hid (by unfold subR; rw [if_neg ck])
    have ck' : (errB an ad bn bd != 0) = true := by rw [bne_iff_ne]; exact ck
    generalize subR an ad bn bd = res at *
    generalize errB an ad bn bd = er at *
    clear ck
    go_enter Try.func23, Try.ntmps23
    go_wp2_with fail
    refine (C1.out _).mono ?_
    rintro e w1 ⟨rfl, hb⟩
    have K := Lib.hid ((PK.init w an ad bn bd).next hb)
    clear hb
    have z0 := blk_cell K.out.z 0 _ rfl
    have z1 := blk_cell K.out.z 1 _ rfl
    have f0 := blk_frozen K.out.z 0
    have f1 := blk_frozen K.out.z 1
    go_wp2_with fail
    have e1 := blk_cell (blk_set (blk_set K.out.z 0 (.int .i64 0)) 1 (.int .i64 0)) 0 _ rfl
    have e2 := blk_cell (blk_set (blk_set K.out.z 0 (.int .i64 0)) 1 (.int .i64 0)) 1 _ rfl
    refine bodyPost_ret (v := .tuple #[Fv 0 0, .int .i64 er]) (by simp [results, Try.results23, go_sem, e1, e2]) rfl ⟨by rw [F.out], Bset1 (Bset1 K.out.n (by omega) _ _) (by omega) _ _⟩
  · have F : Hid (subR an ad bn bd = addF an ad (-bn) bd) := Lib.hid (by unfold subR; rw [if_pos ck])
    obtain ⟨va, vb⟩ := errB_ok ck
    rw [ck] at C1
    have PC := Lib.hid (fun W => sum_calls an ad (-bn) bd W va vb.neg)
    generalize subR an ad bn bd = res at *
    generalize addF an ad (-bn) bd = r at *
    obtain ⟨r1, r2, r3⟩ := r
    have n1 := vb.n1
    have n2 := vb.n2
    clear ck va vb
    go_enter Try.func23, Try.ntmps23
    go_wp2_with fail
    refine (C1.out _).mono ?_
    rintro e w1 ⟨rfl, hb⟩
    have K := Lib.hid ((PK.init w an ad bn bd).next hb)
    clear hb
    have a0 := blk_cell K.out.a 0 _ rfl
    have a1 := blk_cell K.out.a 1 _ rfl
    have b0 := blk_cell K.out.b 0 _ rfl
    have b1 := blk_cell K.out.b 1 _ rfl
    have kl := blk_lt K.out.a
    have kl2 := blk_lt K.out.b
    go_wp2_with fail
    refine (PC.out _).mono ?_
    rintro e w2 ⟨rfl, hb⟩
    replace K : Hid (PK w w2 an ad bn bd) := Lib.hid (K.out.next (by first | exact hb | exact Bgo (Bal (Below.refl _ _) _) hb))
    clear kl kl2 hb
    clear a0 a1 b0 b1
    have z0 := blk_cell K.out.z 0 _ rfl
    have z1 := blk_cell K.out.z 1 _ rfl
    have f0 := blk_frozen K.out.z 0
    have f1 := blk_frozen K.out.z 1
    go_wp2_with fail
    have e1 := blk_cell (blk_set (blk_set K.out.z 0 (.int .i64 r1)) 1 (.int .i64 r2)) 0 _ rfl
    have e2 := blk_cell (blk_set (blk_set K.out.z 0 (.int .i64 r1)) 1 (.int .i64 r2)) 1 _ rfl
    refine bodyPost_ret (v := .tuple #[Fv r1 r2, .int .i64 r3]) (by simp [results, Try.results23, go_sem, e1, e2]) rfl ⟨by rw [F.out], Bset1 (Bset1 K.out.n (by omega) _ _) (by omega) _ _⟩
def cmpR (an ad bn bd : Int) : Int := if errB an ad bn bd = 0 then cmpI (an * bd) (bn * ad) else 0
theorem cmp_calls (an ad bn bd : Int) (w : World) :
    Calls Try.prog 24 #[Fv an ad, Fv bn bd] w fun e w' => e = .returned (.tuple #[.int .i64 (cmpR an ad bn bd), .int .i64 (errB an ad bn bd)]) ∧ Below w.heap.size w w' := by
  have C1 := Lib.hid (fun W => both_calls an ad bn bd W)
  by_cases ck : errB an ad bn bd = 0
  · have F : Hid (cmpR an ad bn bd = cmpI (an * bd) (bn * ad)) := Lib.hid (by unfold cmpR; rw [if_pos ck])
    obtain ⟨va, vb⟩ := errB_ok ck
    rw [ck] at C1 ⊢
    have OC := Lib.hid (fun W => order_calls an ad bn bd W (by have := va.n1; omega) (by have := va.n2; omega) va.d1 (by have := va.d2; omega) (by have := vb.n1; omega) (by have := vb.n2; omega) vb.d1 (by have := vb.d2; omega))
    generalize cmpR an ad bn bd = res at *
    generalize cmpI (an * bd) (bn * ad) = r at *
    clear ck va vb
    go_enter Try.func24, Try.ntmps24
    go_wp2_with fail
    refine (C1.out _).mono ?_
    rintro e w1 ⟨rfl, hb⟩
    have A := blk_next hb (blk_alloc (blk_new w (.cells #[.int .i64 an, .int .i64 ad] 23)) (.cells #[.int .i64 bn, .int .i64 bd] 23))
    have B := blk_next hb (blk2 w (.cells #[.int .i64 an, .int .i64 ad] 23) (.cells #[.int .i64 bn, .int .i64 bd] 23))
    have NN := Lib.hid (Bgo (Bal (Bal (Below.refl _ _) _) _) hb)
    have a0 := blk_cell A 0 _ rfl
    have a1 := blk_cell A 1 _ rfl
    have b0 := blk_cell B 0 _ rfl
    have b1 := blk_cell B 1 _ rfl
    clear A B hb
    go_wp2_with fail
    refine (OC.out _).mono ?_
    rintro e w2 ⟨rfl, hb⟩
    replace NN := Lib.hid (Bgo NN.out hb)
    clear hb a0 a1 b0 b1
    go_wp2_with fail
    go_ret2
    exact ⟨by rw [F.out]; rfl, NN.out⟩
  · have F : Hid (cmpR an ad bn bd = 0) := Lib.hid (by unfold cmpR; rw [if_neg ck])
    have ck' : (errB an ad bn bd != 0) = true := by rw [bne_iff_ne]; exact ck
    generalize cmpR an ad bn bd = res at *
    generalize errB an ad bn bd = er at *
    clear ck
    go_enter Try.func24, Try.ntmps24
    go_wp2_with fail
    refine (C1.out _).mono ?_
    rintro e w1 ⟨rfl, hb⟩
    have NN := Lib.hid (Bgo (Bal (Bal (Below.refl _ _) _) _) hb)
    clear hb
    go_wp2_with fail
    go_ret2
    exact ⟨by rw [F.out]; rfl, NN.out⟩
theorem cmp_same {an ad bn bd : Int} (va : VF an ad) (vb : VF bn bd) : cmpI (an * bd) (bn * ad) = if an = bn ∧ ad = bd then 0 else if an * bd < bn * ad then -1 else 1 := by
  by_cases c : an = bn ∧ ad = bd
  · rw [if_pos c, c.1, c.2, cmpI_eq rfl]
  · rw [if_neg c]
    by_cases l : an * bd < bn * ad
    · rw [if_pos l, cmpI_lt l]
    · rw [if_neg l, cmpI_gt]
      have : an * bd ≠ bn * ad := fun e => c (va.same vb e)
      omega
set_option maxHeartbeats 8000000 in
theorem refCmp_calls (an ad bn bd : Int) (w : World) :
    Calls Try.prog 25 #[Fv an ad, Fv bn bd] w fun e w' => e = .returned (.tuple #[.int .i64 (cmpR an ad bn bd), .int .i64 (errB an ad bn bd)]) ∧ Below w.heap.size w w' := by
  have C1 := Lib.hid (fun W => refBoth_calls an ad bn bd W)
  by_cases ck : errB an ad bn bd = 0
  · obtain ⟨va, vb⟩ := errB_ok ck
    have F : Hid (cmpR an ad bn bd = if an = bn ∧ ad = bd then 0 else if an * bd < bn * ad then -1 else 1) := Lib.hid (by unfold cmpR; rw [if_pos ck, cmp_same va vb])
    rw [ck] at C1 ⊢
    have LC := Lib.hid (fun W => refLess_calls an ad bn bd W (by have := va.n1; omega) (by have := va.n2; omega) va.d1 (by have := va.d2; omega) (by have := vb.n1; omega) (by have := vb.n2; omega) vb.d1 (by have := vb.d2; omega))
    generalize cmpR an ad bn bd = res at *
    clear ck va vb
    go_enter Try.func25, Try.ntmps25
    go_wp2_with fail
    refine (C1.out _).mono ?_
    rintro e w1 ⟨rfl, hb⟩
    have A := blk_next hb (blk_alloc (blk_new w (.cells #[.int .i64 an, .int .i64 ad] 23)) (.cells #[.int .i64 bn, .int .i64 bd] 23))
    have B := blk_next hb (blk2 w (.cells #[.int .i64 an, .int .i64 ad] 23) (.cells #[.int .i64 bn, .int .i64 bd] 23))
    have NN := Lib.hid (Bgo (Bal (Bal (Below.refl _ _) _) _) hb)
    have a0 := blk_cell A 0 _ rfl
    have a1 := blk_cell A 1 _ rfl
    have b0 := blk_cell B 0 _ rfl
    have b1 := blk_cell B 1 _ rfl
    clear A B hb
    by_cases e1 : an = bn
    · subst e1
      by_cases e2 : ad = bd
      · have R := Lib.hid (F.out.trans (if_pos ⟨rfl, e2⟩))
        clear F
        subst e2
        go_wp2_with fail
        go_ret2
        exact ⟨by rw [R.out]; rfl, NN.out⟩
      · have F' := Lib.hid (F.out.trans (if_neg (fun h => e2 h.2)))
        clear F
        by_cases l : an * bd < an * ad
        · have R := Lib.hid (F'.out.trans (if_pos l))
          rw [decide_eq_true l] at LC
          clear F' l
          go_wp2_with fail
          refine (LC.out _).mono ?_
          rintro e w2 ⟨rfl, hb⟩
          replace NN := Lib.hid (Bgo NN.out hb)
          clear hb a0 a1 b0 b1
          go_wp2_with fail
          go_ret2
          exact ⟨by rw [R.out]; rfl, NN.out⟩
        · have R := Lib.hid (F'.out.trans (if_neg l))
          rw [decide_eq_false l] at LC
          clear F' l
          go_wp2_with fail
          refine (LC.out _).mono ?_
          rintro e w2 ⟨rfl, hb⟩
          replace NN := Lib.hid (Bgo NN.out hb)
          clear hb a0 a1 b0 b1
          go_wp2_with fail
          go_ret2
          exact ⟨by rw [R.out]; rfl, NN.out⟩
    · have F' := Lib.hid (F.out.trans (if_neg (fun h => e1 h.1)))
      clear F
      by_cases l : an * bd < bn * ad
      · have R := Lib.hid (F'.out.trans (if_pos l))
        rw [decide_eq_true l] at LC
        clear F' l
        go_wp2_with fail
        refine (LC.out _).mono ?_
        rintro e w2 ⟨rfl, hb⟩
        replace NN := Lib.hid (Bgo NN.out hb)
        clear hb a0 a1 b0 b1
        go_wp2_with fail
        go_ret2
        exact ⟨by rw [R.out]; rfl, NN.out⟩
      · have R := Lib.hid (F'.out.trans (if_neg l))
        rw [decide_eq_false l] at LC
        clear F' l
        go_wp2_with fail
        refine (LC.out _).mono ?_
        rintro e w2 ⟨rfl, hb⟩
        replace NN := Lib.hid (Bgo NN.out hb)
        clear hb a0 a1 b0 b1
        go_wp2_with fail
        go_ret2
        exact ⟨by rw [R.out]; rfl, NN.out⟩
  · have F : Hid (cmpR an ad bn bd = 0) := Lib.hid (by unfold cmpR; rw [if_neg ck])
    have ck' : (errB an ad bn bd != 0) = true := by rw [bne_iff_ne]; exact ck
    generalize cmpR an ad bn bd = res at *
    generalize errB an ad bn bd = er at *
    clear ck
    go_enter Try.func25, Try.ntmps25
    go_wp2_with fail
    refine (C1.out _).mono ?_
    rintro e w1 ⟨rfl, hb⟩
    have A := blk_next hb (blk_alloc (blk_new w (.cells #[.int .i64 an, .int .i64 ad] 23)) (.cells #[.int .i64 bn, .int .i64 bd] 23))
    have B := blk_next hb (blk2 w (.cells #[.int .i64 an, .int .i64 ad] 23) (.cells #[.int .i64 bn, .int .i64 bd] 23))
    have NN := Lib.hid (Bgo (Bal (Bal (Below.refl _ _) _) _) hb)
    have a0 := blk_cell A 0 _ rfl
    have a1 := blk_cell A 1 _ rfl
    have b0 := blk_cell B 0 _ rfl
    have b1 := blk_cell B 1 _ rfl
    clear A B hb
    go_wp2_with fail
    refine (C1.out _).mono ?_
    rintro e w2 ⟨rfl, hb⟩
    replace NN := Lib.hid (Bgo NN.out hb)
    clear hb a0 a1 b0 b1
    go_wp2_with fail
    go_ret2
    exact ⟨by rw [F.out]; rfl, NN.out⟩
set_option maxHeartbeats 1000000 in
theorem refFloor_calls (n d : Int) (w : World) :
    Calls Try.prog 27 #[Fv n d] w fun e w' => e = .returned (.tuple #[.int .i64 (flR n d), .int .i64 (errF n d)]) ∧ Below w.heap.size w w' := by
  have C1 := Lib.hid (fun W => refCheck_calls n d W)
  by_cases ck : errF n d = 0
  · have F : Hid (flR n d = n / d) := Lib.hid (by unfold flR; rw [if_pos ck])
    have v := errF_ok ck
    have FC := Lib.hid (fun W => low_calls n d W (by have := v.n1; omega) (by have := v.n2; omega) v.d1 (by have := v.d2; omega))
    rw [ck] at C1 ⊢
    generalize flR n d = res at *
    generalize n / d = r at *
    clear ck v
    go_enter Try.func27, Try.ntmps27
    go_wp2_with fail
    refine (C1.out _).mono ?_
    rintro e w1 ⟨rfl, hb⟩
    have K := blk_next hb (blk_new w (.cells #[.int .i64 n, .int .i64 d] 23))
    have NN := Lib.hid (Bgo (Bal (Below.refl _ _) _) hb)
    have a0 := blk_cell K 0 _ rfl
    have a1 := blk_cell K 1 _ rfl
    have al := blk_lt K
    clear K hb
    go_wp2_with fail
    refine (FC.out _).mono ?_
    rintro e w2 ⟨rfl, rfl⟩
    go_wp2_with fail
    go_ret2
    exact ⟨by rw [F.out]; rfl, NN.out⟩
  · have F : Hid (flR n d = 0) := Lib.hid (by unfold flR; rw [if_neg ck])
    have ck' : (errF n d != 0) = true := by rw [bne_iff_ne]; exact ck
    generalize flR n d = res at *
    generalize errF n d = er at *
    clear ck
    go_enter Try.func27, Try.ntmps27
    go_wp2_with fail
    refine (C1.out _).mono ?_
    rintro e w1 ⟨rfl, hb⟩
    have K := blk_next hb (blk_new w (.cells #[.int .i64 n, .int .i64 d] 23))
    have NN := Lib.hid (Bgo (Bal (Below.refl _ _) _) hb)
    have a0 := blk_cell K 0 _ rfl
    have a1 := blk_cell K 1 _ rfl
    clear K hb
    go_wp2_with fail
    refine (C1.out _).mono ?_
    rintro e w2 ⟨rfl, hb⟩
    replace NN := Lib.hid (Bgo NN.out hb)
    clear hb
    go_wp2_with fail
    go_ret2
    exact ⟨by rw [F.out]; rfl, NN.out⟩
end Go.Proofs.Ytpeoecgehdicmaa
