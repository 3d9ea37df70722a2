/- Contracts of layer 1: Add, Sub, Cmp of the program; Cmp, Floor of the reference. -/
import Derived.Test.YtfangplfbbgphaaFsd
import Derived.Test.YtfangplfbbgphaaFrv
namespace Go.Proofs.Ytfangplfbbgphaa
open Go.ChangeShapes Go.WideShapes Go.ChangeAt Go.RowKit
set_option linter.unusedVariables false
set_option maxRecDepth 100000
attribute [local go_sem ↓] Go.wp_at_zero Go.wp_at_succ

set_option maxRecDepth 100000 in
set_option maxHeartbeats 8000000 in
theorem sub_calls (an ad bn bd : Int) (w : World) :
    Calls Try.prog 34 #[Fv an ad, Fv bn bd] w fun e w' => e = .returned (Rv (subR an ad bn bd)) ∧ Below w.heap.size w w' := by
  have C1 := Lib.hid (fun W => both_calls an ad bn bd W)
  by_cases ck : errB an ad bn bd = 0
  rotate_left
  · have F : Hid (subR an ad bn bd = (0, 0, errB an ad bn bd)) := Lib.hid (by unfold subR; rw [if_neg ck])
    have ck' : (errB an ad bn bd != 0) = true := by rw [bne_iff_ne]; exact ck
    generalize subR an ad bn bd = res at *
    generalize errB an ad bn bd = er at *
    clear ck
    go_enter Try.func34, Try.ntmps34
    go_wp2_with fail
    refine (C1.out _).mono ?_
    rintro e w1 ⟨rfl, hb⟩
    have K := Lib.hid ((PK.init w an ad bn bd).next hb)
    clear hb
    have z0 := blk_cell K.out.z 0 _ rfl
    have z1 := blk_cell K.out.z 1 _ rfl
    have f0 := blk_frozen K.out.z 0
    have f1 := blk_frozen K.out.z 1
    go_wp2_with fail
    have e1 := blk_cell (blk_set (blk_set K.out.z 0 (.int .i64 0)) 1 (.int .i64 0)) 0 _ rfl
    have e2 := blk_cell (blk_set (blk_set K.out.z 0 (.int .i64 0)) 1 (.int .i64 0)) 1 _ rfl
    refine bodyPost_ret (v := .tuple #[Fv 0 0, .int .i64 er]) (by simp [results, Try.results34, go_sem, e1, e2]) rfl ⟨by rw [F.out], Bset1 (Bset1 K.out.n (by omega) _ _) (by omega) _ _⟩
  · have F : Hid (subR an ad bn bd = addF an ad (-bn) bd) := Lib.hid (by unfold subR; rw [if_pos ck])
    obtain ⟨va, vb⟩ := errB_ok ck
    rw [ck] at C1
    have PC := Lib.hid (fun W => sum_calls an ad (-bn) bd W va vb.neg)
    generalize subR an ad bn bd = res at *
    generalize addF an ad (-bn) bd = r at *
    obtain ⟨r1, r2, r3⟩ := r
    have n1 := vb.n1
    have n2 := vb.n2
    clear ck va vb
    go_enter Try.func34, Try.ntmps34
    go_wp2_with fail
    refine (C1.out _).mono ?_
    rintro e w1 ⟨rfl, hb⟩
    have K := Lib.hid ((PK.init w an ad bn bd).next hb)
    clear hb
    have a0 := blk_cell K.out.a 0 _ rfl
    have a1 := blk_cell K.out.a 1 _ rfl
    have b0 := blk_cell K.out.b 0 _ rfl
    have b1 := blk_cell K.out.b 1 _ rfl
    have kl := blk_lt K.out.a
    have kl2 := blk_lt K.out.b
    go_wp2_with fail
    refine (PC.out _).mono ?_
    rintro e w2 ⟨rfl, hb⟩
    replace K : Hid (PK w w2 an ad bn bd) := Lib.hid (K.out.next (by first | exact hb | exact Bgo (Bal (Below.refl _ _) _) hb))
    clear kl kl2 hb
    clear a0 a1 b0 b1
    have z0 := blk_cell K.out.z 0 _ rfl
    have z1 := blk_cell K.out.z 1 _ rfl
    have f0 := blk_frozen K.out.z 0
    have f1 := blk_frozen K.out.z 1
    go_wp2_with fail
    have e1 := blk_cell (blk_set (blk_set K.out.z 0 (.int .i64 r1)) 1 (.int .i64 r2)) 0 _ rfl
    have e2 := blk_cell (blk_set (blk_set K.out.z 0 (.int .i64 r1)) 1 (.int .i64 r2)) 1 _ rfl
    refine bodyPost_ret (v := .tuple #[Fv r1 r2, .int .i64 r3]) (by simp [results, Try.results34, go_sem, e1, e2]) rfl ⟨by rw [F.out], Bset1 (Bset1 K.out.n (by omega) _ _) (by omega) _ _⟩
def cmpR (an ad bn bd : Int) : Int := if errB an ad bn bd = 0 then cmpI (an * bd) (bn * ad) else 0
theorem cmp_same {an ad bn bd : Int} (va : VF an ad) (vb : VF bn bd) : cmpI (an * bd) (bn * ad) = if an = bn ∧ ad = bd then 0 else if an * bd < bn * ad then -1 else 1 := by
  by_cases c : an = bn ∧ ad = bd
  · rw [if_pos c, c.1, c.2, cmpI_eq rfl]
  · rw [if_neg c]
    by_cases l : an * bd < bn * ad
    · rw [if_pos l, cmpI_lt l]
    · rw [if_neg l, cmpI_gt]
      have : an * bd ≠ bn * ad := fun e => c (va.same vb e)
      omega
end Go.Proofs.Ytfangplfbbgphaa
