/- For every input the law FracBest returns true and leaves its arguments as they were. -/
import Derived.Test.YtpeoecgehdicmaaRows
import Derived.Test.YtpeoecgehdicmaaFrw
import Derived.Test.YtpeoecgehdicmaaFrx
import Derived.WalkKit
import Derived.ProofKit
import Derived.OpenShut
import Derived.ShutString
import Derived.ChangeOld
import Derived.Below
import Derived.Lib.SmallJoins
namespace Go.Proofs.Ytpeoecgehdicmaa.fracBest
open Go.ChangeShapes Go.WideShapes Go.ChangeAt Go.RowKit Go.Joins
open Go.ChangeMaps (open_string shut_string)
set_option linter.unusedVariables false

theorem own : ownKnob Try.prog.godebug = none := by kernel_rfl
theorem laidOut : laidOutB Try.prog = true := by kernel_rfl
theorem refCheckOk {n d : Int} (v : VF n d) (w : World) : Calls Try.prog 17 #[Fv n d] w fun e w' => e = .returned (.int .i64 0) ∧ Below w.heap.size w w' := by
  have h := refCheck_calls n d w
  rwa [v.err] at h
set_option maxRecDepth 100000 in
set_option maxHeartbeats 16000000 in
theorem walk (an ad cn cd m : Int) (w : World) (h1 : -9223372036854775808 ≤ m) (h2 : m ≤ 9223372036854775807) :
    Calls Try.prog 4 #[Fv an ad, Fv cn cd, .int .i64 m] w fun e w' => e = .returned (.bool true) ∧ Below w.heap.size w w' := by
  have V1 := Lib.hid (fun W => valid_calls an ad cn cd W)
  by_cases ck : errB an ad cn cd = 0
  rotate_left
  · have ck' : (errB an ad cn cd == 0) = false := by rw [beq_eq_false_iff_ne]; exact ck
    rw [ck'] at V1
    clear ck ck'
    go_enter Try.func4, Try.ntmps4
    go_wp2_with fail
    have BA : Hid (((w.alloc (.cells #[.int .i64 an, .int .i64 ad] 23)).alloc (.cells #[.int .i64 cn, .int .i64 cd] 23)).heap[w.heap.size]? = some (.cells #[.int .i64 an, .int .i64 ad] 23)) := Lib.hid (blk1 w _ _)
    have BC : Hid (((w.alloc (.cells #[.int .i64 an, .int .i64 ad] 23)).alloc (.cells #[.int .i64 cn, .int .i64 cd] 23)).heap[w.heap.size + 1]? = some (.cells #[.int .i64 cn, .int .i64 cd] 23)) := Lib.hid (blk2 w _ _)
    have NN : Hid (Below w.heap.size w ((w.alloc (.cells #[.int .i64 an, .int .i64 ad] 23)).alloc (.cells #[.int .i64 cn, .int .i64 cd] 23))) := Lib.hid (Bal (Bal (Below.refl _ _) _) _)
    generalize (w.alloc (.cells #[.int .i64 an, .int .i64 ad] 23)).alloc (.cells #[.int .i64 cn, .int .i64 cd] 23) = W0 at *
    refine (V1.out _).mono ?_
    rintro e w1 ⟨rfl, hb⟩
    replace BA := Lib.hid (blk_next hb BA.out)
    replace BC := Lib.hid (blk_next hb BC.out)
    replace NN := Lib.hid (Bgo NN.out hb)
    clear hb
    go_wp2_with fail
    refine (alive_calls _).mono ?_
    rintro e w2 ⟨rfl, hb⟩
    replace BA := Lib.hid (blk_next hb BA.out)
    replace BC := Lib.hid (blk_next hb BC.out)
    replace NN := Lib.hid (Bgo NN.out hb)
    clear hb
    go_wp2_with fail
    go_ret
    exact ⟨rfl, NN.out⟩
  · obtain ⟨va, vc⟩ := errB_ok ck
    rw [show (errB an ad cn cd == 0) = true by rw [ck]; rfl] at V1
    clear ck
    have a1 := va.d1
    have a2 := va.d2
    have a3 := va.n1
    have a4 := va.n2
    have c1 := vc.d1
    have c2 := vc.d2
    have c3 := vc.n1
    have c4 := vc.n2
    have VA := Lib.hid va
    have VC := Lib.hid vc
    clear va vc
    by_cases m1 : m < 1
    · clear a1 a2 a3 a4 c1 c2 c3 c4 h1 h2
      go_enter Try.func4, Try.ntmps4
      go_wp2_with fail
      have BA : Hid (((w.alloc (.cells #[.int .i64 an, .int .i64 ad] 23)).alloc (.cells #[.int .i64 cn, .int .i64 cd] 23)).heap[w.heap.size]? = some (.cells #[.int .i64 an, .int .i64 ad] 23)) := Lib.hid (blk1 w _ _)
      have BC : Hid (((w.alloc (.cells #[.int .i64 an, .int .i64 ad] 23)).alloc (.cells #[.int .i64 cn, .int .i64 cd] 23)).heap[w.heap.size + 1]? = some (.cells #[.int .i64 cn, .int .i64 cd] 23)) := Lib.hid (blk2 w _ _)
      have NN : Hid (Below w.heap.size w ((w.alloc (.cells #[.int .i64 an, .int .i64 ad] 23)).alloc (.cells #[.int .i64 cn, .int .i64 cd] 23))) := Lib.hid (Bal (Bal (Below.refl _ _) _) _)
      generalize (w.alloc (.cells #[.int .i64 an, .int .i64 ad] 23)).alloc (.cells #[.int .i64 cn, .int .i64 cd] 23) = W0 at *
      refine (V1.out _).mono ?_
      rintro e w1 ⟨rfl, hb⟩
      replace BA := Lib.hid (blk_next hb BA.out)
      replace BC := Lib.hid (blk_next hb BC.out)
      replace NN := Lib.hid (Bgo NN.out hb)
      clear hb
      go_wp2_with fail
      refine (alive_calls _).mono ?_
      rintro e w2 ⟨rfl, hb⟩
      replace BA := Lib.hid (blk_next hb BA.out)
      replace BC := Lib.hid (blk_next hb BC.out)
      replace NN := Lib.hid (Bgo NN.out hb)
      clear hb
      go_wp2_with fail
      go_ret
      exact ⟨rfl, NN.out⟩
    by_cases m2 : 1000000000000000000 < m
    · clear a1 a2 a3 a4 c1 c2 c3 c4 h1 h2
      go_enter Try.func4, Try.ntmps4
      go_wp2_with fail
      have BA : Hid (((w.alloc (.cells #[.int .i64 an, .int .i64 ad] 23)).alloc (.cells #[.int .i64 cn, .int .i64 cd] 23)).heap[w.heap.size]? = some (.cells #[.int .i64 an, .int .i64 ad] 23)) := Lib.hid (blk1 w _ _)
      have BC : Hid (((w.alloc (.cells #[.int .i64 an, .int .i64 ad] 23)).alloc (.cells #[.int .i64 cn, .int .i64 cd] 23)).heap[w.heap.size + 1]? = some (.cells #[.int .i64 cn, .int .i64 cd] 23)) := Lib.hid (blk2 w _ _)
      have NN : Hid (Below w.heap.size w ((w.alloc (.cells #[.int .i64 an, .int .i64 ad] 23)).alloc (.cells #[.int .i64 cn, .int .i64 cd] 23))) := Lib.hid (Bal (Bal (Below.refl _ _) _) _)
      generalize (w.alloc (.cells #[.int .i64 an, .int .i64 ad] 23)).alloc (.cells #[.int .i64 cn, .int .i64 cd] 23) = W0 at *
      refine (V1.out _).mono ?_
      rintro e w1 ⟨rfl, hb⟩
      replace BA := Lib.hid (blk_next hb BA.out)
      replace BC := Lib.hid (blk_next hb BC.out)
      replace NN := Lib.hid (Bgo NN.out hb)
      clear hb
      go_wp2_with fail
      refine (alive_calls _).mono ?_
      rintro e w2 ⟨rfl, hb⟩
      replace BA := Lib.hid (blk_next hb BA.out)
      replace BC := Lib.hid (blk_next hb BC.out)
      replace NN := Lib.hid (Bgo NN.out hb)
      clear hb
      go_wp2_with fail
      go_ret
      exact ⟨rfl, NN.out⟩
    have m3 : ¬ m < 1 := m1
    have N1 := Lib.hid (fun W => near_calls an ad m W)
    have N2 := Lib.hid (fun W => near_calls an ad ad W)
    have S1 := Lib.hid (fun (n d : Int) W => refSub_calls an ad n d W)
    have SO := Lib.hid (fun (n d x y e : Int) (v : VF n d) (h : subR an ad n d = (x, y, e)) => sub_ok VA.out v h)
    go_enter Try.func4, Try.ntmps4
    go_wp2_with fail
    have BA : Hid (((w.alloc (.cells #[.int .i64 an, .int .i64 ad] 23)).alloc (.cells #[.int .i64 cn, .int .i64 cd] 23)).heap[w.heap.size]? = some (.cells #[.int .i64 an, .int .i64 ad] 23)) := Lib.hid (blk1 w _ _)
    have BC : Hid (((w.alloc (.cells #[.int .i64 an, .int .i64 ad] 23)).alloc (.cells #[.int .i64 cn, .int .i64 cd] 23)).heap[w.heap.size + 1]? = some (.cells #[.int .i64 cn, .int .i64 cd] 23)) := Lib.hid (blk2 w _ _)
    have NN : Hid (Below w.heap.size w ((w.alloc (.cells #[.int .i64 an, .int .i64 ad] 23)).alloc (.cells #[.int .i64 cn, .int .i64 cd] 23))) := Lib.hid (Bal (Bal (Below.refl _ _) _) _)
    generalize (w.alloc (.cells #[.int .i64 an, .int .i64 ad] 23)).alloc (.cells #[.int .i64 cn, .int .i64 cd] 23) = W0 at *
    refine (V1.out _).mono ?_
    rintro e w1 ⟨rfl, hb⟩
    replace BA := Lib.hid (blk_next hb BA.out)
    replace BC := Lib.hid (blk_next hb BC.out)
    replace NN := Lib.hid (Bgo NN.out hb)
    clear hb
    have lBA := blk_lt BA.out
    have cBA0 := blk_cell BA.out 0 _ rfl
    have cBA1 := blk_cell BA.out 1 _ rfl
    go_wp2_with fail
    refine (N1.out _).mono ?_
    rintro e w2 ⟨⟨xn, xd, xe⟩, rfl, hr, hb⟩
    obtain ⟨rfl, vx, x0, bx⟩ := near_ok VA.out (by omega) (by omega) hr
    have VX := Lib.hid vx
    have BX := Lib.hid bx
    clear hr vx bx
    clear lBA cBA0 cBA1
    have HB : Hid (Below w1.heap.size w1 (w2.alloc (.cells #[.int .i64 xn, .int .i64 xd] 23))) := Lib.hid (Bal hb _)
    have yBA := blk_next hb BA.out
    have lBA := blk_lt yBA
    have cBA0 := blk_cell yBA 0 _ rfl
    have cBA1 := blk_cell yBA 1 _ rfl
    clear yBA
    clear hb
    replace BA := Lib.hid (blk_next HB.out BA.out)
    replace BC := Lib.hid (blk_next HB.out BC.out)
    replace NN := Lib.hid (Bgo NN.out HB.out)
    have Bx : Hid ((w2.alloc (.cells #[.int .i64 xn, .int .i64 xd] 23)).heap[w2.heap.size]? = some (.cells #[.int .i64 xn, .int .i64 xd] 23)) := Lib.hid (blk_new w2 _)
    clear HB
    go_wp2_with fail
    clear lBA cBA0 cBA1
    generalize w2.alloc (.cells #[.int .i64 xn, .int .i64 xd] 23) = W2 at *
    generalize w2.heap.size = gx at *
    refine (N2.out _).mono ?_
    rintro e w3 ⟨⟨yn, yd, ye⟩, rfl, hr, hb⟩
    obtain ⟨e1, e2, rfl⟩ := near_own VA.out hr
    obtain rfl := e1.symm
    obtain rfl := e2.symm
    clear hr
    have HB : Hid (Below W2.heap.size W2 (w3.alloc (.cells #[.int .i64 an, .int .i64 ad] 23))) := Lib.hid (Bal hb _)
    have yBA := blk_next hb BA.out
    have lBA := blk_lt yBA
    have cBA0 := blk_cell yBA 0 _ rfl
    have cBA1 := blk_cell yBA 1 _ rfl
    clear yBA
    have yBx := blk_next hb Bx.out
    have lBx := blk_lt yBx
    have cBx0 := blk_cell yBx 0 _ rfl
    have cBx1 := blk_cell yBx 1 _ rfl
    clear yBx
    clear hb
    replace BA := Lib.hid (blk_next HB.out BA.out)
    replace BC := Lib.hid (blk_next HB.out BC.out)
    replace Bx := Lib.hid (blk_next HB.out Bx.out)
    replace NN := Lib.hid (Bgo NN.out HB.out)
    have By : Hid ((w3.alloc (.cells #[.int .i64 an, .int .i64 ad] 23)).heap[w3.heap.size]? = some (.cells #[.int .i64 an, .int .i64 ad] 23)) := Lib.hid (blk_new w3 _)
    clear HB
    go_wp2_with fail
    clear lBA cBA0 cBA1 lBx cBx0 cBx1
    generalize w3.alloc (.cells #[.int .i64 an, .int .i64 ad] 23) = W3 at *
    generalize w3.heap.size = gy at *
    have x1 := VX.out.d1
    have x2 := VX.out.d2
    by_cases mo : m < cd
    · have mo1 : (m < cd) = True := eq_true mo
      refine (refCheckOk VX.out _).mono ?_
      rintro e w4 ⟨rfl, hb⟩
      replace BA := Lib.hid (blk_next hb BA.out)
      replace BC := Lib.hid (blk_next hb BC.out)
      replace Bx := Lib.hid (blk_next hb Bx.out)
      replace By := Lib.hid (blk_next hb By.out)
      replace NN := Lib.hid (Bgo NN.out hb)
      clear hb
      have lBx := blk_lt Bx.out
      have cBx0 := blk_cell Bx.out 0 _ rfl
      have cBx1 := blk_cell Bx.out 1 _ rfl
      have lBC := blk_lt BC.out
      have cBC0 := blk_cell BC.out 0 _ rfl
      have cBC1 := blk_cell BC.out 1 _ rfl
      go_wp2_with fail
      clear lBx cBx0 cBx1 lBC cBC0 cBC1
      refine (alive_calls _).mono ?_
      rintro e w5 ⟨rfl, hb⟩
      replace BA := Lib.hid (blk_next hb BA.out)
      replace BC := Lib.hid (blk_next hb BC.out)
      replace Bx := Lib.hid (blk_next hb Bx.out)
      replace By := Lib.hid (blk_next hb By.out)
      replace NN := Lib.hid (Bgo NN.out hb)
      clear hb
      go_wp2_with fail
      go_ret
      exact ⟨rfl, NN.out⟩
    refine (refCheckOk VX.out _).mono ?_
    rintro e w4 ⟨rfl, hb⟩
    replace BA := Lib.hid (blk_next hb BA.out)
    replace BC := Lib.hid (blk_next hb BC.out)
    replace Bx := Lib.hid (blk_next hb Bx.out)
    replace By := Lib.hid (blk_next hb By.out)
    replace NN := Lib.hid (Bgo NN.out hb)
    clear hb
    have lBx := blk_lt Bx.out
    have cBx0 := blk_cell Bx.out 0 _ rfl
    have cBx1 := blk_cell Bx.out 1 _ rfl
    have lBA := blk_lt BA.out
    have cBA0 := blk_cell BA.out 0 _ rfl
    have cBA1 := blk_cell BA.out 1 _ rfl
    have lBC := blk_lt BC.out
    have cBC0 := blk_cell BC.out 0 _ rfl
    have cBC1 := blk_cell BC.out 1 _ rfl
    go_wp2_with fail
    clear lBx cBx0 cBx1 lBA cBA0 cBA1 lBC cBC0 cBC1
    clear By
    have S1x := Lib.hid (fun W => S1.out xn xd W)
    have S1c := Lib.hid (fun W => S1.out cn cd W)
    obtain ⟨⟨dn, dd, de⟩, hd⟩ : ∃ r, subR an ad xn xd = r := ⟨_, rfl⟩
    obtain ⟨⟨gn, gd, ge⟩, hg⟩ : ∃ r, subR an ad cn cd = r := ⟨_, rfl⟩
    rw [hd] at S1x
    rw [hg] at S1c
    have HD := Lib.hid hd
    have HG := Lib.hid hg
    clear hd hg
    refine (S1x.out _).mono ?_
    rintro e w5 ⟨rfl, hb⟩
    have Ld := Lib.hid (show w.heap.size ≤ _ ∧ w.heap.size < _ ∧ w.heap.size + 1 < _ ∧ gx < _ from ⟨(Bgo NN.out hb).size, blk_lt (blk_next hb BA.out), blk_lt (blk_next hb BC.out), blk_lt (blk_next hb Bx.out)⟩)
    have HB : Hid (Below w4.heap.size w4 (w5.alloc (.cells #[.int .i64 dn, .int .i64 dd] 23))) := Lib.hid (Bal hb _)
    have yBA := blk_next hb BA.out
    have lBA := blk_lt yBA
    have cBA0 := blk_cell yBA 0 _ rfl
    have cBA1 := blk_cell yBA 1 _ rfl
    clear yBA
    have yBC := blk_next hb BC.out
    have lBC := blk_lt yBC
    have cBC0 := blk_cell yBC 0 _ rfl
    have cBC1 := blk_cell yBC 1 _ rfl
    clear yBC
    clear hb
    replace BA := Lib.hid (blk_next HB.out BA.out)
    replace BC := Lib.hid (blk_next HB.out BC.out)
    replace Bx := Lib.hid (blk_next HB.out Bx.out)
    replace NN := Lib.hid (Bgo NN.out HB.out)
    have Bd : Hid ((w5.alloc (.cells #[.int .i64 dn, .int .i64 dd] 23)).heap[w5.heap.size]? = some (.cells #[.int .i64 dn, .int .i64 dd] 23)) := Lib.hid (blk_new w5 _)
    clear HB
    go_wp2_with fail
    clear lBA cBA0 cBA1 lBC cBC0 cBC1
    generalize w5.alloc (.cells #[.int .i64 dn, .int .i64 dd] 23) = W5 at *
    generalize w5.heap.size = pd at *
    by_cases cde : de = 0
    rotate_left
    · have dde : (de != 0) = true := by rw [bne_iff_ne]; exact cde
      clear cde
      refine (S1c.out _).mono ?_
      rintro e w6 ⟨rfl, hb⟩
      have Lg := Lib.hid (show w.heap.size ≤ _ ∧ w.heap.size < _ ∧ w.heap.size + 1 < _ ∧ gx < _ ∧ pd < _ from ⟨(Bgo NN.out hb).size, blk_lt (blk_next hb BA.out), blk_lt (blk_next hb BC.out), blk_lt (blk_next hb Bx.out), blk_lt (blk_next hb Bd.out)⟩)
      have HB : Hid (Below W5.heap.size W5 (w6.alloc (.cells #[.int .i64 gn, .int .i64 gd] 23))) := Lib.hid (Bal hb _)
      have yBA := blk_next hb BA.out
      have lBA := blk_lt yBA
      have cBA0 := blk_cell yBA 0 _ rfl
      have cBA1 := blk_cell yBA 1 _ rfl
      clear yBA
      have yBC := blk_next hb BC.out
      have lBC := blk_lt yBC
      have cBC0 := blk_cell yBC 0 _ rfl
      have cBC1 := blk_cell yBC 1 _ rfl
      clear yBC
      have yBx := blk_next hb Bx.out
      have lBx := blk_lt yBx
      have cBx0 := blk_cell yBx 0 _ rfl
      have cBx1 := blk_cell yBx 1 _ rfl
      clear yBx
      have yBd := blk_next hb Bd.out
      have lBd := blk_lt yBd
      have cBd0 := blk_cell yBd 0 _ rfl
      have cBd1 := blk_cell yBd 1 _ rfl
      clear yBd
      clear hb
      replace BA := Lib.hid (blk_next HB.out BA.out)
      replace BC := Lib.hid (blk_next HB.out BC.out)
      replace Bx := Lib.hid (blk_next HB.out Bx.out)
      replace Bd := Lib.hid (blk_next HB.out Bd.out)
      replace NN := Lib.hid (Bgo NN.out HB.out)
      have Bg : Hid ((w6.alloc (.cells #[.int .i64 gn, .int .i64 gd] 23)).heap[w6.heap.size]? = some (.cells #[.int .i64 gn, .int .i64 gd] 23)) := Lib.hid (blk_new w6 _)
      clear HB
      go_wp2_with fail
      clear lBA cBA0 cBA1 lBC cBC0 cBC1 lBx cBx0 cBx1 lBd cBd0 cBd1
      generalize w6.alloc (.cells #[.int .i64 gn, .int .i64 gd] 23) = W6 at *
      generalize w6.heap.size = pg at *
      refine (alive_calls _).mono ?_
      rintro e w7 ⟨rfl, hb⟩
      replace BA := Lib.hid (blk_next hb BA.out)
      replace BC := Lib.hid (blk_next hb BC.out)
      replace Bx := Lib.hid (blk_next hb Bx.out)
      replace Bd := Lib.hid (blk_next hb Bd.out)
      replace Bg := Lib.hid (blk_next hb Bg.out)
      replace NN := Lib.hid (Bgo NN.out hb)
      clear hb
      go_wp2_with fail
      go_ret
      exact ⟨rfl, NN.out⟩
    subst de
    by_cases cge : ge = 0
    rotate_left
    · have dge : (ge != 0) = true := by rw [bne_iff_ne]; exact cge
      clear cge
      refine (S1c.out _).mono ?_
      rintro e w6 ⟨rfl, hb⟩
      have Lg := Lib.hid (show w.heap.size ≤ _ ∧ w.heap.size < _ ∧ w.heap.size + 1 < _ ∧ gx < _ ∧ pd < _ from ⟨(Bgo NN.out hb).size, blk_lt (blk_next hb BA.out), blk_lt (blk_next hb BC.out), blk_lt (blk_next hb Bx.out), blk_lt (blk_next hb Bd.out)⟩)
      have HB : Hid (Below W5.heap.size W5 (w6.alloc (.cells #[.int .i64 gn, .int .i64 gd] 23))) := Lib.hid (Bal hb _)
      have yBA := blk_next hb BA.out
      have lBA := blk_lt yBA
      have cBA0 := blk_cell yBA 0 _ rfl
      have cBA1 := blk_cell yBA 1 _ rfl
      clear yBA
      have yBC := blk_next hb BC.out
      have lBC := blk_lt yBC
      have cBC0 := blk_cell yBC 0 _ rfl
      have cBC1 := blk_cell yBC 1 _ rfl
      clear yBC
      have yBx := blk_next hb Bx.out
      have lBx := blk_lt yBx
      have cBx0 := blk_cell yBx 0 _ rfl
      have cBx1 := blk_cell yBx 1 _ rfl
      clear yBx
      have yBd := blk_next hb Bd.out
      have lBd := blk_lt yBd
      have cBd0 := blk_cell yBd 0 _ rfl
      have cBd1 := blk_cell yBd 1 _ rfl
      clear yBd
      clear hb
      replace BA := Lib.hid (blk_next HB.out BA.out)
      replace BC := Lib.hid (blk_next HB.out BC.out)
      replace Bx := Lib.hid (blk_next HB.out Bx.out)
      replace Bd := Lib.hid (blk_next HB.out Bd.out)
      replace NN := Lib.hid (Bgo NN.out HB.out)
      have Bg : Hid ((w6.alloc (.cells #[.int .i64 gn, .int .i64 gd] 23)).heap[w6.heap.size]? = some (.cells #[.int .i64 gn, .int .i64 gd] 23)) := Lib.hid (blk_new w6 _)
      clear HB
      go_wp2_with fail
      clear lBA cBA0 cBA1 lBC cBC0 cBC1 lBx cBx0 cBx1 lBd cBd0 cBd1
      generalize w6.alloc (.cells #[.int .i64 gn, .int .i64 gd] 23) = W6 at *
      generalize w6.heap.size = pg at *
      refine (alive_calls _).mono ?_
      rintro e w7 ⟨rfl, hb⟩
      replace BA := Lib.hid (blk_next hb BA.out)
      replace BC := Lib.hid (blk_next hb BC.out)
      replace Bx := Lib.hid (blk_next hb Bx.out)
      replace Bd := Lib.hid (blk_next hb Bd.out)
      replace Bg := Lib.hid (blk_next hb Bg.out)
      replace NN := Lib.hid (Bgo NN.out hb)
      clear hb
      go_wp2_with fail
      go_ret
      exact ⟨rfl, NN.out⟩
    subst ge
    obtain ⟨vd, ed⟩ := SO.out _ _ _ _ _ VX.out HD.out rfl
    obtain ⟨vg, eg⟩ := SO.out _ _ _ _ _ VC.out HG.out rfl
    have d1 := vd.d1
    have d2 := vd.d2
    have d3 := vd.n1
    have d4 := vd.n2
    have g1 := vg.d1
    have g2 := vg.d2
    have g3 := vg.n1
    have g4 := vg.n2
    have cm : cd ≤ m := by omega
    obtain ⟨b1, b2⟩ := BX.out cn cd c1 cm
    have FL := Lib.hid (far_le (by omega) (by omega) (by omega) (by omega) (by omega) ed eg b1)
    have FE := Lib.hid (fun (h : dd = gd) (h' : dn.natAbs = gn.natAbs) => b2 (far_eq (gd := gd) (by omega) (by omega) (by omega) (by omega) ed (by rw [h]; exact eg) h'))
    have NGC := Lib.hid (fun W => refNeg_calls gn gd W (by omega) (by omega))
    have NDC := Lib.hid (fun W => refNeg_calls dn dd W (by omega) (by omega))
    clear ed eg b1 b2 vd vg a1 a2 a3 a4 h1 h2 m1 m2 m3 cm mo
    by_cases sd : dn < 0
    · have sd' : (dn < 0) = True := eq_true sd
      by_cases sg : gn < 0
      · have sg' : (gn < 0) = True := eq_true sg
        refine (S1c.out _).mono ?_
        rintro e w6 ⟨rfl, hb⟩
        have Lg := Lib.hid (show w.heap.size ≤ _ ∧ w.heap.size < _ ∧ w.heap.size + 1 < _ ∧ gx < _ ∧ pd < _ from ⟨(Bgo NN.out hb).size, blk_lt (blk_next hb BA.out), blk_lt (blk_next hb BC.out), blk_lt (blk_next hb Bx.out), blk_lt (blk_next hb Bd.out)⟩)
        have HB : Hid (Below W5.heap.size W5 (w6.alloc (.cells #[.int .i64 gn, .int .i64 gd] 23))) := Lib.hid (Bal hb _)
        have yBA := blk_next hb BA.out
        have lBA := blk_lt yBA
        have cBA0 := blk_cell yBA 0 _ rfl
        have cBA1 := blk_cell yBA 1 _ rfl
        clear yBA
        have yBC := blk_next hb BC.out
        have lBC := blk_lt yBC
        have cBC0 := blk_cell yBC 0 _ rfl
        have cBC1 := blk_cell yBC 1 _ rfl
        clear yBC
        have yBx := blk_next hb Bx.out
        have lBx := blk_lt yBx
        have cBx0 := blk_cell yBx 0 _ rfl
        have cBx1 := blk_cell yBx 1 _ rfl
        clear yBx
        have yBd := blk_next hb Bd.out
        have lBd := blk_lt yBd
        have cBd0 := blk_cell yBd 0 _ rfl
        have cBd1 := blk_cell yBd 1 _ rfl
        clear yBd
        clear hb
        replace BA := Lib.hid (blk_next HB.out BA.out)
        replace BC := Lib.hid (blk_next HB.out BC.out)
        replace Bx := Lib.hid (blk_next HB.out Bx.out)
        replace Bd := Lib.hid (blk_next HB.out Bd.out)
        replace NN := Lib.hid (Bgo NN.out HB.out)
        have Bg : Hid ((w6.alloc (.cells #[.int .i64 gn, .int .i64 gd] 23)).heap[w6.heap.size]? = some (.cells #[.int .i64 gn, .int .i64 gd] 23)) := Lib.hid (blk_new w6 _)
        clear HB
        go_wp2_with fail
        clear lBA cBA0 cBA1 lBC cBC0 cBC1 lBx cBx0 cBx1 lBd cBd0 cBd1
        generalize w6.alloc (.cells #[.int .i64 gn, .int .i64 gd] 23) = W6 at *
        generalize w6.heap.size = pg at *
        refine (NDC.out _).mono ?_
        rintro e w7 ⟨rfl, hb⟩
        replace BA := Lib.hid (blk_next hb BA.out)
        replace BC := Lib.hid (blk_next hb BC.out)
        replace Bx := Lib.hid (blk_next hb Bx.out)
        replace Bd := Lib.hid (blk_next hb Bd.out)
        replace Bg := Lib.hid (blk_next hb Bg.out)
        replace NN := Lib.hid (Bgo NN.out hb)
        clear hb
        have lBd := blk_lt Bd.out
        have cBd0 := blk_cell Bd.out 0 _ rfl
        have cBd1 := blk_cell Bd.out 1 _ rfl
        have lBg := blk_lt Bg.out
        have cBg0 := blk_cell Bg.out 0 _ rfl
        have cBg1 := blk_cell Bg.out 1 _ rfl
        have fBd0 := blk_frozen Bd.out 0
        have fBd1 := blk_frozen Bd.out 1
        have qBd := Lib.hid (blk_set (blk_set Bd.out 0 (.int .i64 (-dn))) 1 (.int .i64 dd))
        have qBA := Lib.hid (blk_set_other (b' := pd) (blk_set_other (b' := pd) BA.out (by have h := Ld.out; have h' := Lg.out; omega) 0 (.int .i64 (-dn))) (by have h := Ld.out; have h' := Lg.out; omega) 1 (.int .i64 dd))
        have qBC := Lib.hid (blk_set_other (b' := pd) (blk_set_other (b' := pd) BC.out (by have h := Ld.out; have h' := Lg.out; omega) 0 (.int .i64 (-dn))) (by have h := Ld.out; have h' := Lg.out; omega) 1 (.int .i64 dd))
        have qBx := Lib.hid (blk_set_other (b' := pd) (blk_set_other (b' := pd) Bx.out (by have h := Ld.out; have h' := Lg.out; omega) 0 (.int .i64 (-dn))) (by have h := Ld.out; have h' := Lg.out; omega) 1 (.int .i64 dd))
        have qBg := Lib.hid (blk_set_other (b' := pd) (blk_set_other (b' := pd) Bg.out (by have h := Ld.out; have h' := Lg.out; omega) 0 (.int .i64 (-dn))) (by have h := Ld.out; have h' := Lg.out; omega) 1 (.int .i64 dd))
        have qN := Lib.hid (Bset1 (Bset1 NN.out Ld.out.1 0 (.int .i64 (-dn))) Ld.out.1 1 (.int .i64 dd))
        have zBd0 := blk_cell qBd.out 0 _ rfl
        have zBd1 := blk_cell qBd.out 1 _ rfl
        have zlBd := blk_lt qBd.out
        have zBg0 := blk_cell qBg.out 0 _ rfl
        have zBg1 := blk_cell qBg.out 1 _ rfl
        have zlBg := blk_lt qBg.out
        go_wp2_with fail
        clear lBd cBd0 cBd1 lBg cBg0 cBg1 fBd0 fBd1 zBd0 zBd1 zlBd zBg0 zBg1 zlBg
        generalize (w7.setCell ⟨pd, 0, none⟩ (.int .i64 (-dn))).setCell ⟨pd, 1, none⟩ (.int .i64 dd) = V7 at *
        replace BA := Lib.hid qBA.out
        clear qBA
        replace BC := Lib.hid qBC.out
        clear qBC
        replace Bx := Lib.hid qBx.out
        clear qBx
        replace Bd := Lib.hid qBd.out
        clear qBd
        replace Bg := Lib.hid qBg.out
        clear qBg
        replace NN := Lib.hid qN.out
        clear qN
        refine (NGC.out _).mono ?_
        rintro e w8 ⟨rfl, hb⟩
        replace BA := Lib.hid (blk_next hb BA.out)
        replace BC := Lib.hid (blk_next hb BC.out)
        replace Bx := Lib.hid (blk_next hb Bx.out)
        replace Bd := Lib.hid (blk_next hb Bd.out)
        replace Bg := Lib.hid (blk_next hb Bg.out)
        replace NN := Lib.hid (Bgo NN.out hb)
        clear hb
        have lBd := blk_lt Bd.out
        have cBd0 := blk_cell Bd.out 0 _ rfl
        have cBd1 := blk_cell Bd.out 1 _ rfl
        have lBg := blk_lt Bg.out
        have cBg0 := blk_cell Bg.out 0 _ rfl
        have cBg1 := blk_cell Bg.out 1 _ rfl
        have fBg0 := blk_frozen Bg.out 0
        have fBg1 := blk_frozen Bg.out 1
        have qBg := Lib.hid (blk_set (blk_set Bg.out 0 (.int .i64 (-gn))) 1 (.int .i64 gd))
        have qBA := Lib.hid (blk_set_other (b' := pg) (blk_set_other (b' := pg) BA.out (by have h := Lg.out; have h' := Lg.out; omega) 0 (.int .i64 (-gn))) (by have h := Lg.out; have h' := Lg.out; omega) 1 (.int .i64 gd))
        have qBC := Lib.hid (blk_set_other (b' := pg) (blk_set_other (b' := pg) BC.out (by have h := Lg.out; have h' := Lg.out; omega) 0 (.int .i64 (-gn))) (by have h := Lg.out; have h' := Lg.out; omega) 1 (.int .i64 gd))
        have qBx := Lib.hid (blk_set_other (b' := pg) (blk_set_other (b' := pg) Bx.out (by have h := Lg.out; have h' := Lg.out; omega) 0 (.int .i64 (-gn))) (by have h := Lg.out; have h' := Lg.out; omega) 1 (.int .i64 gd))
        have qBd := Lib.hid (blk_set_other (b' := pg) (blk_set_other (b' := pg) Bd.out (by have h := Lg.out; have h' := Lg.out; omega) 0 (.int .i64 (-gn))) (by have h := Lg.out; have h' := Lg.out; omega) 1 (.int .i64 gd))
        have qN := Lib.hid (Bset1 (Bset1 NN.out Lg.out.1 0 (.int .i64 (-gn))) Lg.out.1 1 (.int .i64 gd))
        have zBd0 := blk_cell qBd.out 0 _ rfl
        have zBd1 := blk_cell qBd.out 1 _ rfl
        have zlBd := blk_lt qBd.out
        have zBg0 := blk_cell qBg.out 0 _ rfl
        have zBg1 := blk_cell qBg.out 1 _ rfl
        have zlBg := blk_lt qBg.out
        go_wp2_with fail
        clear lBd cBd0 cBd1 lBg cBg0 cBg1 fBg0 fBg1 zBd0 zBd1 zlBd zBg0 zBg1 zlBg
        generalize (w8.setCell ⟨pg, 0, none⟩ (.int .i64 (-gn))).setCell ⟨pg, 1, none⟩ (.int .i64 gd) = V8 at *
        replace BA := Lib.hid qBA.out
        clear qBA
        replace BC := Lib.hid qBC.out
        clear qBC
        replace Bx := Lib.hid qBx.out
        clear qBx
        replace Bd := Lib.hid qBd.out
        clear qBd
        replace Bg := Lib.hid qBg.out
        clear qBg
        replace NN := Lib.hid qN.out
        clear qN
        clear sd' sg'
        obtain ⟨dN, hdN⟩ : ∃ z, -dn = z := ⟨_, rfl⟩
        rw [hdN] at Bd ⊢
        obtain ⟨gN, hgN⟩ : ∃ z, -gn = z := ⟨_, rfl⟩
        rw [hgN] at Bg ⊢
        have k1 : ((dn.natAbs : Nat) : Int) = dN := by omega
        have k2 : ((gn.natAbs : Nat) : Int) = gN := by omega
        rw [k1, k2] at FL
        have LC := Lib.hid (fun W => refLess_calls gN gd dN dd W (by omega) (by omega) (by omega) (by omega) (by omega) (by omega) (by omega) (by omega))
        rw [decide_eq_false (show ¬ gN * dd < dN * gd by have := FL.out; omega)] at LC
        have c3 := VC.out.n1
        have c4 := VC.out.n2
        have x3 := VX.out.n1
        have x4 := VX.out.n2
        have LO := Lib.hid (fun W => refLess_calls cn cd xn xd W (by omega) (by omega) (by omega) (by omega) (by omega) (by omega) (by omega) (by omega))
        have FE' : Hid (gN = dN → gd = dd → ¬ cn * xd < xn * cd) := Lib.hid (fun h h' => by have := FE.out h'.symm (by omega); omega)
        clear FE FL k1 k2 hdN hgN d1 d2 d3 d4 g1 g2 g3 g4 c1 c2 c3 c4 x1 x2 x3 x4 sd sg SO HD HG BX VA VC VX NGC NDC S1x S1c S1 Ld Lg
        by_cases e1 : gN = dN
        · obtain rfl := e1
          by_cases e2 : gd = dd
          · obtain rfl := e2
            rw [decide_eq_false (FE'.out rfl rfl)] at LO
            clear FE'
            refine (LC.out _).mono ?_
            rintro e w9 ⟨rfl, hb⟩
            replace BA := Lib.hid (blk_next hb BA.out)
            replace BC := Lib.hid (blk_next hb BC.out)
            replace Bx := Lib.hid (blk_next hb Bx.out)
            replace Bd := Lib.hid (blk_next hb Bd.out)
            replace Bg := Lib.hid (blk_next hb Bg.out)
            replace NN := Lib.hid (Bgo NN.out hb)
            clear hb
            have lBd := blk_lt Bd.out
            have cBd0 := blk_cell Bd.out 0 _ rfl
            have cBd1 := blk_cell Bd.out 1 _ rfl
            have lBg := blk_lt Bg.out
            have cBg0 := blk_cell Bg.out 0 _ rfl
            have cBg1 := blk_cell Bg.out 1 _ rfl
            have lBC := blk_lt BC.out
            have cBC0 := blk_cell BC.out 0 _ rfl
            have cBC1 := blk_cell BC.out 1 _ rfl
            have lBx := blk_lt Bx.out
            have cBx0 := blk_cell Bx.out 0 _ rfl
            have cBx1 := blk_cell Bx.out 1 _ rfl
            go_wp2_with fail
            refine (LO.out _).mono ?_
            rintro e w10 ⟨rfl, hb⟩
            clear lBd cBd0 cBd1 lBg cBg0 cBg1 lBC cBC0 cBC1 lBx cBx0 cBx1
            replace BA := Lib.hid (blk_next hb BA.out)
            replace BC := Lib.hid (blk_next hb BC.out)
            replace Bx := Lib.hid (blk_next hb Bx.out)
            replace Bd := Lib.hid (blk_next hb Bd.out)
            replace Bg := Lib.hid (blk_next hb Bg.out)
            replace NN := Lib.hid (Bgo NN.out hb)
            clear hb
            go_wp2_with fail
            refine (alive_calls _).mono ?_
            rintro e w11 ⟨rfl, hb⟩
            replace BA := Lib.hid (blk_next hb BA.out)
            replace BC := Lib.hid (blk_next hb BC.out)
            replace Bx := Lib.hid (blk_next hb Bx.out)
            replace Bd := Lib.hid (blk_next hb Bd.out)
            replace Bg := Lib.hid (blk_next hb Bg.out)
            replace NN := Lib.hid (Bgo NN.out hb)
            clear hb
            go_wp2_with fail
            go_ret
            exact ⟨rfl, NN.out⟩
          · clear FE'
            refine (LC.out _).mono ?_
            rintro e w9 ⟨rfl, hb⟩
            replace BA := Lib.hid (blk_next hb BA.out)
            replace BC := Lib.hid (blk_next hb BC.out)
            replace Bx := Lib.hid (blk_next hb Bx.out)
            replace Bd := Lib.hid (blk_next hb Bd.out)
            replace Bg := Lib.hid (blk_next hb Bg.out)
            replace NN := Lib.hid (Bgo NN.out hb)
            clear hb
            have lBd := blk_lt Bd.out
            have cBd0 := blk_cell Bd.out 0 _ rfl
            have cBd1 := blk_cell Bd.out 1 _ rfl
            have lBg := blk_lt Bg.out
            have cBg0 := blk_cell Bg.out 0 _ rfl
            have cBg1 := blk_cell Bg.out 1 _ rfl
            go_wp2_with fail
            refine (alive_calls _).mono ?_
            rintro e w10 ⟨rfl, hb⟩
            clear lBd cBd0 cBd1 lBg cBg0 cBg1
            replace BA := Lib.hid (blk_next hb BA.out)
            replace BC := Lib.hid (blk_next hb BC.out)
            replace Bx := Lib.hid (blk_next hb Bx.out)
            replace Bd := Lib.hid (blk_next hb Bd.out)
            replace Bg := Lib.hid (blk_next hb Bg.out)
            replace NN := Lib.hid (Bgo NN.out hb)
            clear hb
            go_wp2_with fail
            go_ret
            exact ⟨rfl, NN.out⟩
        · clear FE'
          refine (LC.out _).mono ?_
          rintro e w9 ⟨rfl, hb⟩
          replace BA := Lib.hid (blk_next hb BA.out)
          replace BC := Lib.hid (blk_next hb BC.out)
          replace Bx := Lib.hid (blk_next hb Bx.out)
          replace Bd := Lib.hid (blk_next hb Bd.out)
          replace Bg := Lib.hid (blk_next hb Bg.out)
          replace NN := Lib.hid (Bgo NN.out hb)
          clear hb
          have lBd := blk_lt Bd.out
          have cBd0 := blk_cell Bd.out 0 _ rfl
          have cBd1 := blk_cell Bd.out 1 _ rfl
          have lBg := blk_lt Bg.out
          have cBg0 := blk_cell Bg.out 0 _ rfl
          have cBg1 := blk_cell Bg.out 1 _ rfl
          go_wp2_with fail
          refine (alive_calls _).mono ?_
          rintro e w10 ⟨rfl, hb⟩
          clear lBd cBd0 cBd1 lBg cBg0 cBg1
          replace BA := Lib.hid (blk_next hb BA.out)
          replace BC := Lib.hid (blk_next hb BC.out)
          replace Bx := Lib.hid (blk_next hb Bx.out)
          replace Bd := Lib.hid (blk_next hb Bd.out)
          replace Bg := Lib.hid (blk_next hb Bg.out)
          replace NN := Lib.hid (Bgo NN.out hb)
          clear hb
          go_wp2_with fail
          go_ret
          exact ⟨rfl, NN.out⟩
      · have sg' : (gn < 0) = False := eq_false sg
        refine (S1c.out _).mono ?_
        rintro e w6 ⟨rfl, hb⟩
        have Lg := Lib.hid (show w.heap.size ≤ _ ∧ w.heap.size < _ ∧ w.heap.size + 1 < _ ∧ gx < _ ∧ pd < _ from ⟨(Bgo NN.out hb).size, blk_lt (blk_next hb BA.out), blk_lt (blk_next hb BC.out), blk_lt (blk_next hb Bx.out), blk_lt (blk_next hb Bd.out)⟩)
        have HB : Hid (Below W5.heap.size W5 (w6.alloc (.cells #[.int .i64 gn, .int .i64 gd] 23))) := Lib.hid (Bal hb _)
        have yBA := blk_next hb BA.out
        have lBA := blk_lt yBA
        have cBA0 := blk_cell yBA 0 _ rfl
        have cBA1 := blk_cell yBA 1 _ rfl
        clear yBA
        have yBC := blk_next hb BC.out
        have lBC := blk_lt yBC
        have cBC0 := blk_cell yBC 0 _ rfl
        have cBC1 := blk_cell yBC 1 _ rfl
        clear yBC
        have yBx := blk_next hb Bx.out
        have lBx := blk_lt yBx
        have cBx0 := blk_cell yBx 0 _ rfl
        have cBx1 := blk_cell yBx 1 _ rfl
        clear yBx
        have yBd := blk_next hb Bd.out
        have lBd := blk_lt yBd
        have cBd0 := blk_cell yBd 0 _ rfl
        have cBd1 := blk_cell yBd 1 _ rfl
        clear yBd
        clear hb
        replace BA := Lib.hid (blk_next HB.out BA.out)
        replace BC := Lib.hid (blk_next HB.out BC.out)
        replace Bx := Lib.hid (blk_next HB.out Bx.out)
        replace Bd := Lib.hid (blk_next HB.out Bd.out)
        replace NN := Lib.hid (Bgo NN.out HB.out)
        have Bg : Hid ((w6.alloc (.cells #[.int .i64 gn, .int .i64 gd] 23)).heap[w6.heap.size]? = some (.cells #[.int .i64 gn, .int .i64 gd] 23)) := Lib.hid (blk_new w6 _)
        clear HB
        go_wp2_with fail
        clear lBA cBA0 cBA1 lBC cBC0 cBC1 lBx cBx0 cBx1 lBd cBd0 cBd1
        generalize w6.alloc (.cells #[.int .i64 gn, .int .i64 gd] 23) = W6 at *
        generalize w6.heap.size = pg at *
        refine (NDC.out _).mono ?_
        rintro e w7 ⟨rfl, hb⟩
        replace BA := Lib.hid (blk_next hb BA.out)
        replace BC := Lib.hid (blk_next hb BC.out)
        replace Bx := Lib.hid (blk_next hb Bx.out)
        replace Bd := Lib.hid (blk_next hb Bd.out)
        replace Bg := Lib.hid (blk_next hb Bg.out)
        replace NN := Lib.hid (Bgo NN.out hb)
        clear hb
        have lBd := blk_lt Bd.out
        have cBd0 := blk_cell Bd.out 0 _ rfl
        have cBd1 := blk_cell Bd.out 1 _ rfl
        have lBg := blk_lt Bg.out
        have cBg0 := blk_cell Bg.out 0 _ rfl
        have cBg1 := blk_cell Bg.out 1 _ rfl
        have fBd0 := blk_frozen Bd.out 0
        have fBd1 := blk_frozen Bd.out 1
        have qBd := Lib.hid (blk_set (blk_set Bd.out 0 (.int .i64 (-dn))) 1 (.int .i64 dd))
        have qBA := Lib.hid (blk_set_other (b' := pd) (blk_set_other (b' := pd) BA.out (by have h := Ld.out; have h' := Lg.out; omega) 0 (.int .i64 (-dn))) (by have h := Ld.out; have h' := Lg.out; omega) 1 (.int .i64 dd))
        have qBC := Lib.hid (blk_set_other (b' := pd) (blk_set_other (b' := pd) BC.out (by have h := Ld.out; have h' := Lg.out; omega) 0 (.int .i64 (-dn))) (by have h := Ld.out; have h' := Lg.out; omega) 1 (.int .i64 dd))
        have qBx := Lib.hid (blk_set_other (b' := pd) (blk_set_other (b' := pd) Bx.out (by have h := Ld.out; have h' := Lg.out; omega) 0 (.int .i64 (-dn))) (by have h := Ld.out; have h' := Lg.out; omega) 1 (.int .i64 dd))
        have qBg := Lib.hid (blk_set_other (b' := pd) (blk_set_other (b' := pd) Bg.out (by have h := Ld.out; have h' := Lg.out; omega) 0 (.int .i64 (-dn))) (by have h := Ld.out; have h' := Lg.out; omega) 1 (.int .i64 dd))
        have qN := Lib.hid (Bset1 (Bset1 NN.out Ld.out.1 0 (.int .i64 (-dn))) Ld.out.1 1 (.int .i64 dd))
        have zBd0 := blk_cell qBd.out 0 _ rfl
        have zBd1 := blk_cell qBd.out 1 _ rfl
        have zlBd := blk_lt qBd.out
        have zBg0 := blk_cell qBg.out 0 _ rfl
        have zBg1 := blk_cell qBg.out 1 _ rfl
        have zlBg := blk_lt qBg.out
        go_wp2_with fail
        clear lBd cBd0 cBd1 lBg cBg0 cBg1 fBd0 fBd1 zBd0 zBd1 zlBd zBg0 zBg1 zlBg
        generalize (w7.setCell ⟨pd, 0, none⟩ (.int .i64 (-dn))).setCell ⟨pd, 1, none⟩ (.int .i64 dd) = V7 at *
        replace BA := Lib.hid qBA.out
        clear qBA
        replace BC := Lib.hid qBC.out
        clear qBC
        replace Bx := Lib.hid qBx.out
        clear qBx
        replace Bd := Lib.hid qBd.out
        clear qBd
        replace Bg := Lib.hid qBg.out
        clear qBg
        replace NN := Lib.hid qN.out
        clear qN
        clear sd' sg'
        obtain ⟨dN, hdN⟩ : ∃ z, -dn = z := ⟨_, rfl⟩
        rw [hdN] at Bd ⊢
        have k1 : ((dn.natAbs : Nat) : Int) = dN := by omega
        have k2 : ((gn.natAbs : Nat) : Int) = gn := by omega
        rw [k1, k2] at FL
        have LC := Lib.hid (fun W => refLess_calls gn gd dN dd W (by omega) (by omega) (by omega) (by omega) (by omega) (by omega) (by omega) (by omega))
        rw [decide_eq_false (show ¬ gn * dd < dN * gd by have := FL.out; omega)] at LC
        have c3 := VC.out.n1
        have c4 := VC.out.n2
        have x3 := VX.out.n1
        have x4 := VX.out.n2
        have LO := Lib.hid (fun W => refLess_calls cn cd xn xd W (by omega) (by omega) (by omega) (by omega) (by omega) (by omega) (by omega) (by omega))
        have FE' : Hid (gn = dN → gd = dd → ¬ cn * xd < xn * cd) := Lib.hid (fun h h' => by have := FE.out h'.symm (by omega); omega)
        clear FE FL k1 k2 hdN d1 d2 d3 d4 g1 g2 g3 g4 c1 c2 c3 c4 x1 x2 x3 x4 sd sg SO HD HG BX VA VC VX NGC NDC S1x S1c S1 Ld Lg
        by_cases e1 : gn = dN
        · obtain rfl := e1
          by_cases e2 : gd = dd
          · obtain rfl := e2
            rw [decide_eq_false (FE'.out rfl rfl)] at LO
            clear FE'
            refine (LC.out _).mono ?_
            rintro e w8 ⟨rfl, hb⟩
            replace BA := Lib.hid (blk_next hb BA.out)
            replace BC := Lib.hid (blk_next hb BC.out)
            replace Bx := Lib.hid (blk_next hb Bx.out)
            replace Bd := Lib.hid (blk_next hb Bd.out)
            replace Bg := Lib.hid (blk_next hb Bg.out)
            replace NN := Lib.hid (Bgo NN.out hb)
            clear hb
            have lBd := blk_lt Bd.out
            have cBd0 := blk_cell Bd.out 0 _ rfl
            have cBd1 := blk_cell Bd.out 1 _ rfl
            have lBg := blk_lt Bg.out
            have cBg0 := blk_cell Bg.out 0 _ rfl
            have cBg1 := blk_cell Bg.out 1 _ rfl
            have lBC := blk_lt BC.out
            have cBC0 := blk_cell BC.out 0 _ rfl
            have cBC1 := blk_cell BC.out 1 _ rfl
            have lBx := blk_lt Bx.out
            have cBx0 := blk_cell Bx.out 0 _ rfl
            have cBx1 := blk_cell Bx.out 1 _ rfl
            go_wp2_with fail
            refine (LO.out _).mono ?_
            rintro e w9 ⟨rfl, hb⟩
            clear lBd cBd0 cBd1 lBg cBg0 cBg1 lBC cBC0 cBC1 lBx cBx0 cBx1
            replace BA := Lib.hid (blk_next hb BA.out)
            replace BC := Lib.hid (blk_next hb BC.out)
            replace Bx := Lib.hid (blk_next hb Bx.out)
            replace Bd := Lib.hid (blk_next hb Bd.out)
            replace Bg := Lib.hid (blk_next hb Bg.out)
            replace NN := Lib.hid (Bgo NN.out hb)
            clear hb
            go_wp2_with fail
            refine (alive_calls _).mono ?_
            rintro e w10 ⟨rfl, hb⟩
            replace BA := Lib.hid (blk_next hb BA.out)
            replace BC := Lib.hid (blk_next hb BC.out)
            replace Bx := Lib.hid (blk_next hb Bx.out)
            replace Bd := Lib.hid (blk_next hb Bd.out)
            replace Bg := Lib.hid (blk_next hb Bg.out)
            replace NN := Lib.hid (Bgo NN.out hb)
            clear hb
            go_wp2_with fail
            go_ret
            exact ⟨rfl, NN.out⟩
          · clear FE'
            refine (LC.out _).mono ?_
            rintro e w8 ⟨rfl, hb⟩
            replace BA := Lib.hid (blk_next hb BA.out)
            replace BC := Lib.hid (blk_next hb BC.out)
            replace Bx := Lib.hid (blk_next hb Bx.out)
            replace Bd := Lib.hid (blk_next hb Bd.out)
            replace Bg := Lib.hid (blk_next hb Bg.out)
            replace NN := Lib.hid (Bgo NN.out hb)
            clear hb
            have lBd := blk_lt Bd.out
            have cBd0 := blk_cell Bd.out 0 _ rfl
            have cBd1 := blk_cell Bd.out 1 _ rfl
            have lBg := blk_lt Bg.out
            have cBg0 := blk_cell Bg.out 0 _ rfl
            have cBg1 := blk_cell Bg.out 1 _ rfl
            go_wp2_with fail
            refine (alive_calls _).mono ?_
            rintro e w9 ⟨rfl, hb⟩
            clear lBd cBd0 cBd1 lBg cBg0 cBg1
            replace BA := Lib.hid (blk_next hb BA.out)
            replace BC := Lib.hid (blk_next hb BC.out)
            replace Bx := Lib.hid (blk_next hb Bx.out)
            replace Bd := Lib.hid (blk_next hb Bd.out)
            replace Bg := Lib.hid (blk_next hb Bg.out)
            replace NN := Lib.hid (Bgo NN.out hb)
            clear hb
            go_wp2_with fail
            go_ret
            exact ⟨rfl, NN.out⟩
        · clear FE'
          refine (LC.out _).mono ?_
          rintro e w8 ⟨rfl, hb⟩
          replace BA := Lib.hid (blk_next hb BA.out)
          replace BC := Lib.hid (blk_next hb BC.out)
          replace Bx := Lib.hid (blk_next hb Bx.out)
          replace Bd := Lib.hid (blk_next hb Bd.out)
          replace Bg := Lib.hid (blk_next hb Bg.out)
          replace NN := Lib.hid (Bgo NN.out hb)
          clear hb
          have lBd := blk_lt Bd.out
          have cBd0 := blk_cell Bd.out 0 _ rfl
          have cBd1 := blk_cell Bd.out 1 _ rfl
          have lBg := blk_lt Bg.out
          have cBg0 := blk_cell Bg.out 0 _ rfl
          have cBg1 := blk_cell Bg.out 1 _ rfl
          go_wp2_with fail
          refine (alive_calls _).mono ?_
          rintro e w9 ⟨rfl, hb⟩
          clear lBd cBd0 cBd1 lBg cBg0 cBg1
          replace BA := Lib.hid (blk_next hb BA.out)
          replace BC := Lib.hid (blk_next hb BC.out)
          replace Bx := Lib.hid (blk_next hb Bx.out)
          replace Bd := Lib.hid (blk_next hb Bd.out)
          replace Bg := Lib.hid (blk_next hb Bg.out)
          replace NN := Lib.hid (Bgo NN.out hb)
          clear hb
          go_wp2_with fail
          go_ret
          exact ⟨rfl, NN.out⟩
    · have sd' : (dn < 0) = False := eq_false sd
      by_cases sg : gn < 0
      · have sg' : (gn < 0) = True := eq_true sg
        refine (S1c.out _).mono ?_
        rintro e w6 ⟨rfl, hb⟩
        have Lg := Lib.hid (show w.heap.size ≤ _ ∧ w.heap.size < _ ∧ w.heap.size + 1 < _ ∧ gx < _ ∧ pd < _ from ⟨(Bgo NN.out hb).size, blk_lt (blk_next hb BA.out), blk_lt (blk_next hb BC.out), blk_lt (blk_next hb Bx.out), blk_lt (blk_next hb Bd.out)⟩)
        have HB : Hid (Below W5.heap.size W5 (w6.alloc (.cells #[.int .i64 gn, .int .i64 gd] 23))) := Lib.hid (Bal hb _)
        have yBA := blk_next hb BA.out
        have lBA := blk_lt yBA
        have cBA0 := blk_cell yBA 0 _ rfl
        have cBA1 := blk_cell yBA 1 _ rfl
        clear yBA
        have yBC := blk_next hb BC.out
        have lBC := blk_lt yBC
        have cBC0 := blk_cell yBC 0 _ rfl
        have cBC1 := blk_cell yBC 1 _ rfl
        clear yBC
        have yBx := blk_next hb Bx.out
        have lBx := blk_lt yBx
        have cBx0 := blk_cell yBx 0 _ rfl
        have cBx1 := blk_cell yBx 1 _ rfl
        clear yBx
        have yBd := blk_next hb Bd.out
        have lBd := blk_lt yBd
        have cBd0 := blk_cell yBd 0 _ rfl
        have cBd1 := blk_cell yBd 1 _ rfl
        clear yBd
        clear hb
        replace BA := Lib.hid (blk_next HB.out BA.out)
        replace BC := Lib.hid (blk_next HB.out BC.out)
        replace Bx := Lib.hid (blk_next HB.out Bx.out)
        replace Bd := Lib.hid (blk_next HB.out Bd.out)
        replace NN := Lib.hid (Bgo NN.out HB.out)
        have Bg : Hid ((w6.alloc (.cells #[.int .i64 gn, .int .i64 gd] 23)).heap[w6.heap.size]? = some (.cells #[.int .i64 gn, .int .i64 gd] 23)) := Lib.hid (blk_new w6 _)
        clear HB
        go_wp2_with fail
        clear lBA cBA0 cBA1 lBC cBC0 cBC1 lBx cBx0 cBx1 lBd cBd0 cBd1
        generalize w6.alloc (.cells #[.int .i64 gn, .int .i64 gd] 23) = W6 at *
        generalize w6.heap.size = pg at *
        refine (NGC.out _).mono ?_
        rintro e w7 ⟨rfl, hb⟩
        replace BA := Lib.hid (blk_next hb BA.out)
        replace BC := Lib.hid (blk_next hb BC.out)
        replace Bx := Lib.hid (blk_next hb Bx.out)
        replace Bd := Lib.hid (blk_next hb Bd.out)
        replace Bg := Lib.hid (blk_next hb Bg.out)
        replace NN := Lib.hid (Bgo NN.out hb)
        clear hb
        have lBd := blk_lt Bd.out
        have cBd0 := blk_cell Bd.out 0 _ rfl
        have cBd1 := blk_cell Bd.out 1 _ rfl
        have lBg := blk_lt Bg.out
        have cBg0 := blk_cell Bg.out 0 _ rfl
        have cBg1 := blk_cell Bg.out 1 _ rfl
        have fBg0 := blk_frozen Bg.out 0
        have fBg1 := blk_frozen Bg.out 1
        have qBg := Lib.hid (blk_set (blk_set Bg.out 0 (.int .i64 (-gn))) 1 (.int .i64 gd))
        have qBA := Lib.hid (blk_set_other (b' := pg) (blk_set_other (b' := pg) BA.out (by have h := Lg.out; have h' := Lg.out; omega) 0 (.int .i64 (-gn))) (by have h := Lg.out; have h' := Lg.out; omega) 1 (.int .i64 gd))
        have qBC := Lib.hid (blk_set_other (b' := pg) (blk_set_other (b' := pg) BC.out (by have h := Lg.out; have h' := Lg.out; omega) 0 (.int .i64 (-gn))) (by have h := Lg.out; have h' := Lg.out; omega) 1 (.int .i64 gd))
        have qBx := Lib.hid (blk_set_other (b' := pg) (blk_set_other (b' := pg) Bx.out (by have h := Lg.out; have h' := Lg.out; omega) 0 (.int .i64 (-gn))) (by have h := Lg.out; have h' := Lg.out; omega) 1 (.int .i64 gd))
        have qBd := Lib.hid (blk_set_other (b' := pg) (blk_set_other (b' := pg) Bd.out (by have h := Lg.out; have h' := Lg.out; omega) 0 (.int .i64 (-gn))) (by have h := Lg.out; have h' := Lg.out; omega) 1 (.int .i64 gd))
        have qN := Lib.hid (Bset1 (Bset1 NN.out Lg.out.1 0 (.int .i64 (-gn))) Lg.out.1 1 (.int .i64 gd))
        have zBd0 := blk_cell qBd.out 0 _ rfl
        have zBd1 := blk_cell qBd.out 1 _ rfl
        have zlBd := blk_lt qBd.out
        have zBg0 := blk_cell qBg.out 0 _ rfl
        have zBg1 := blk_cell qBg.out 1 _ rfl
        have zlBg := blk_lt qBg.out
        go_wp2_with fail
        clear lBd cBd0 cBd1 lBg cBg0 cBg1 fBg0 fBg1 zBd0 zBd1 zlBd zBg0 zBg1 zlBg
        generalize (w7.setCell ⟨pg, 0, none⟩ (.int .i64 (-gn))).setCell ⟨pg, 1, none⟩ (.int .i64 gd) = V7 at *
        replace BA := Lib.hid qBA.out
        clear qBA
        replace BC := Lib.hid qBC.out
        clear qBC
        replace Bx := Lib.hid qBx.out
        clear qBx
        replace Bd := Lib.hid qBd.out
        clear qBd
        replace Bg := Lib.hid qBg.out
        clear qBg
        replace NN := Lib.hid qN.out
        clear qN
        clear sd' sg'
        obtain ⟨gN, hgN⟩ : ∃ z, -gn = z := ⟨_, rfl⟩
        rw [hgN] at Bg ⊢
        have k1 : ((dn.natAbs : Nat) : Int) = dn := by omega
        have k2 : ((gn.natAbs : Nat) : Int) = gN := by omega
        rw [k1, k2] at FL
        have LC := Lib.hid (fun W => refLess_calls gN gd dn dd W (by omega) (by omega) (by omega) (by omega) (by omega) (by omega) (by omega) (by omega))
        rw [decide_eq_false (show ¬ gN * dd < dn * gd by have := FL.out; omega)] at LC
        have c3 := VC.out.n1
        have c4 := VC.out.n2
        have x3 := VX.out.n1
        have x4 := VX.out.n2
        have LO := Lib.hid (fun W => refLess_calls cn cd xn xd W (by omega) (by omega) (by omega) (by omega) (by omega) (by omega) (by omega) (by omega))
        have FE' : Hid (gN = dn → gd = dd → ¬ cn * xd < xn * cd) := Lib.hid (fun h h' => by have := FE.out h'.symm (by omega); omega)
        clear FE FL k1 k2 hgN d1 d2 d3 d4 g1 g2 g3 g4 c1 c2 c3 c4 x1 x2 x3 x4 sd sg SO HD HG BX VA VC VX NGC NDC S1x S1c S1 Ld Lg
        by_cases e1 : gN = dn
        · obtain rfl := e1
          by_cases e2 : gd = dd
          · obtain rfl := e2
            rw [decide_eq_false (FE'.out rfl rfl)] at LO
            clear FE'
            refine (LC.out _).mono ?_
            rintro e w8 ⟨rfl, hb⟩
            replace BA := Lib.hid (blk_next hb BA.out)
            replace BC := Lib.hid (blk_next hb BC.out)
            replace Bx := Lib.hid (blk_next hb Bx.out)
            replace Bd := Lib.hid (blk_next hb Bd.out)
            replace Bg := Lib.hid (blk_next hb Bg.out)
            replace NN := Lib.hid (Bgo NN.out hb)
            clear hb
            have lBd := blk_lt Bd.out
            have cBd0 := blk_cell Bd.out 0 _ rfl
            have cBd1 := blk_cell Bd.out 1 _ rfl
            have lBg := blk_lt Bg.out
            have cBg0 := blk_cell Bg.out 0 _ rfl
            have cBg1 := blk_cell Bg.out 1 _ rfl
            have lBC := blk_lt BC.out
            have cBC0 := blk_cell BC.out 0 _ rfl
            have cBC1 := blk_cell BC.out 1 _ rfl
            have lBx := blk_lt Bx.out
            have cBx0 := blk_cell Bx.out 0 _ rfl
            have cBx1 := blk_cell Bx.out 1 _ rfl
            go_wp2_with fail
            refine (LO.out _).mono ?_
            rintro e w9 ⟨rfl, hb⟩
            clear lBd cBd0 cBd1 lBg cBg0 cBg1 lBC cBC0 cBC1 lBx cBx0 cBx1
            replace BA := Lib.hid (blk_next hb BA.out)
            replace BC := Lib.hid (blk_next hb BC.out)
            replace Bx := Lib.hid (blk_next hb Bx.out)
            replace Bd := Lib.hid (blk_next hb Bd.out)
            replace Bg := Lib.hid (blk_next hb Bg.out)
            replace NN := Lib.hid (Bgo NN.out hb)
            clear hb
            go_wp2_with fail
            refine (alive_calls _).mono ?_
            rintro e w10 ⟨rfl, hb⟩
            replace BA := Lib.hid (blk_next hb BA.out)
            replace BC := Lib.hid (blk_next hb BC.out)
            replace Bx := Lib.hid (blk_next hb Bx.out)
            replace Bd := Lib.hid (blk_next hb Bd.out)
            replace Bg := Lib.hid (blk_next hb Bg.out)
            replace NN := Lib.hid (Bgo NN.out hb)
            clear hb
            go_wp2_with fail
            go_ret
            exact ⟨rfl, NN.out⟩
          · clear FE'
            refine (LC.out _).mono ?_
            rintro e w8 ⟨rfl, hb⟩
            replace BA := Lib.hid (blk_next hb BA.out)
            replace BC := Lib.hid (blk_next hb BC.out)
            replace Bx := Lib.hid (blk_next hb Bx.out)
            replace Bd := Lib.hid (blk_next hb Bd.out)
            replace Bg := Lib.hid (blk_next hb Bg.out)
            replace NN := Lib.hid (Bgo NN.out hb)
            clear hb
            have lBd := blk_lt Bd.out
            have cBd0 := blk_cell Bd.out 0 _ rfl
            have cBd1 := blk_cell Bd.out 1 _ rfl
            have lBg := blk_lt Bg.out
            have cBg0 := blk_cell Bg.out 0 _ rfl
            have cBg1 := blk_cell Bg.out 1 _ rfl
            go_wp2_with fail
            refine (alive_calls _).mono ?_
            rintro e w9 ⟨rfl, hb⟩
            clear lBd cBd0 cBd1 lBg cBg0 cBg1
            replace BA := Lib.hid (blk_next hb BA.out)
            replace BC := Lib.hid (blk_next hb BC.out)
            replace Bx := Lib.hid (blk_next hb Bx.out)
            replace Bd := Lib.hid (blk_next hb Bd.out)
            replace Bg := Lib.hid (blk_next hb Bg.out)
            replace NN := Lib.hid (Bgo NN.out hb)
            clear hb
            go_wp2_with fail
            go_ret
            exact ⟨rfl, NN.out⟩
        · clear FE'
          refine (LC.out _).mono ?_
          rintro e w8 ⟨rfl, hb⟩
          replace BA := Lib.hid (blk_next hb BA.out)
          replace BC := Lib.hid (blk_next hb BC.out)
          replace Bx := Lib.hid (blk_next hb Bx.out)
          replace Bd := Lib.hid (blk_next hb Bd.out)
          replace Bg := Lib.hid (blk_next hb Bg.out)
          replace NN := Lib.hid (Bgo NN.out hb)
          clear hb
          have lBd := blk_lt Bd.out
          have cBd0 := blk_cell Bd.out 0 _ rfl
          have cBd1 := blk_cell Bd.out 1 _ rfl
          have lBg := blk_lt Bg.out
          have cBg0 := blk_cell Bg.out 0 _ rfl
          have cBg1 := blk_cell Bg.out 1 _ rfl
          go_wp2_with fail
          refine (alive_calls _).mono ?_
          rintro e w9 ⟨rfl, hb⟩
          clear lBd cBd0 cBd1 lBg cBg0 cBg1
          replace BA := Lib.hid (blk_next hb BA.out)
          replace BC := Lib.hid (blk_next hb BC.out)
          replace Bx := Lib.hid (blk_next hb Bx.out)
          replace Bd := Lib.hid (blk_next hb Bd.out)
          replace Bg := Lib.hid (blk_next hb Bg.out)
          replace NN := Lib.hid (Bgo NN.out hb)
          clear hb
          go_wp2_with fail
          go_ret
          exact ⟨rfl, NN.out⟩
      · have sg' : (gn < 0) = False := eq_false sg
        refine (S1c.out _).mono ?_
        rintro e w6 ⟨rfl, hb⟩
        have Lg := Lib.hid (show w.heap.size ≤ _ ∧ w.heap.size < _ ∧ w.heap.size + 1 < _ ∧ gx < _ ∧ pd < _ from ⟨(Bgo NN.out hb).size, blk_lt (blk_next hb BA.out), blk_lt (blk_next hb BC.out), blk_lt (blk_next hb Bx.out), blk_lt (blk_next hb Bd.out)⟩)
        have HB : Hid (Below W5.heap.size W5 (w6.alloc (.cells #[.int .i64 gn, .int .i64 gd] 23))) := Lib.hid (Bal hb _)
        have yBA := blk_next hb BA.out
        have lBA := blk_lt yBA
        have cBA0 := blk_cell yBA 0 _ rfl
        have cBA1 := blk_cell yBA 1 _ rfl
        clear yBA
        have yBC := blk_next hb BC.out
        have lBC := blk_lt yBC
        have cBC0 := blk_cell yBC 0 _ rfl
        have cBC1 := blk_cell yBC 1 _ rfl
        clear yBC
        have yBx := blk_next hb Bx.out
        have lBx := blk_lt yBx
        have cBx0 := blk_cell yBx 0 _ rfl
        have cBx1 := blk_cell yBx 1 _ rfl
        clear yBx
        have yBd := blk_next hb Bd.out
        have lBd := blk_lt yBd
        have cBd0 := blk_cell yBd 0 _ rfl
        have cBd1 := blk_cell yBd 1 _ rfl
        clear yBd
        clear hb
        replace BA := Lib.hid (blk_next HB.out BA.out)
        replace BC := Lib.hid (blk_next HB.out BC.out)
        replace Bx := Lib.hid (blk_next HB.out Bx.out)
        replace Bd := Lib.hid (blk_next HB.out Bd.out)
        replace NN := Lib.hid (Bgo NN.out HB.out)
        have Bg : Hid ((w6.alloc (.cells #[.int .i64 gn, .int .i64 gd] 23)).heap[w6.heap.size]? = some (.cells #[.int .i64 gn, .int .i64 gd] 23)) := Lib.hid (blk_new w6 _)
        clear HB
        go_wp2_with fail
        clear lBA cBA0 cBA1 lBC cBC0 cBC1 lBx cBx0 cBx1 lBd cBd0 cBd1
        generalize w6.alloc (.cells #[.int .i64 gn, .int .i64 gd] 23) = W6 at *
        generalize w6.heap.size = pg at *
        clear sd' sg'
        have k1 : ((dn.natAbs : Nat) : Int) = dn := by omega
        have k2 : ((gn.natAbs : Nat) : Int) = gn := by omega
        rw [k1, k2] at FL
        have LC := Lib.hid (fun W => refLess_calls gn gd dn dd W (by omega) (by omega) (by omega) (by omega) (by omega) (by omega) (by omega) (by omega))
        rw [decide_eq_false (show ¬ gn * dd < dn * gd by have := FL.out; omega)] at LC
        have c3 := VC.out.n1
        have c4 := VC.out.n2
        have x3 := VX.out.n1
        have x4 := VX.out.n2
        have LO := Lib.hid (fun W => refLess_calls cn cd xn xd W (by omega) (by omega) (by omega) (by omega) (by omega) (by omega) (by omega) (by omega))
        have FE' : Hid (gn = dn → gd = dd → ¬ cn * xd < xn * cd) := Lib.hid (fun h h' => by have := FE.out h'.symm (by omega); omega)
        clear FE FL k1 k2 d1 d2 d3 d4 g1 g2 g3 g4 c1 c2 c3 c4 x1 x2 x3 x4 sd sg SO HD HG BX VA VC VX NGC NDC S1x S1c S1 Ld Lg
        by_cases e1 : gn = dn
        · obtain rfl := e1
          by_cases e2 : gd = dd
          · obtain rfl := e2
            rw [decide_eq_false (FE'.out rfl rfl)] at LO
            clear FE'
            refine (LC.out _).mono ?_
            rintro e w7 ⟨rfl, hb⟩
            replace BA := Lib.hid (blk_next hb BA.out)
            replace BC := Lib.hid (blk_next hb BC.out)
            replace Bx := Lib.hid (blk_next hb Bx.out)
            replace Bd := Lib.hid (blk_next hb Bd.out)
            replace Bg := Lib.hid (blk_next hb Bg.out)
            replace NN := Lib.hid (Bgo NN.out hb)
            clear hb
            have lBd := blk_lt Bd.out
            have cBd0 := blk_cell Bd.out 0 _ rfl
            have cBd1 := blk_cell Bd.out 1 _ rfl
            have lBg := blk_lt Bg.out
            have cBg0 := blk_cell Bg.out 0 _ rfl
            have cBg1 := blk_cell Bg.out 1 _ rfl
            have lBC := blk_lt BC.out
            have cBC0 := blk_cell BC.out 0 _ rfl
            have cBC1 := blk_cell BC.out 1 _ rfl
            have lBx := blk_lt Bx.out
            have cBx0 := blk_cell Bx.out 0 _ rfl
            have cBx1 := blk_cell Bx.out 1 _ rfl
            go_wp2_with fail
            refine (LO.out _).mono ?_
            rintro e w8 ⟨rfl, hb⟩
            clear lBd cBd0 cBd1 lBg cBg0 cBg1 lBC cBC0 cBC1 lBx cBx0 cBx1
            replace BA := Lib.hid (blk_next hb BA.out)
            replace BC := Lib.hid (blk_next hb BC.out)
            replace Bx := Lib.hid (blk_next hb Bx.out)
            replace Bd := Lib.hid (blk_next hb Bd.out)
            replace Bg := Lib.hid (blk_next hb Bg.out)
            replace NN := Lib.hid (Bgo NN.out hb)
            clear hb
            go_wp2_with fail
            refine (alive_calls _).mono ?_
            rintro e w9 ⟨rfl, hb⟩
            replace BA := Lib.hid (blk_next hb BA.out)
            replace BC := Lib.hid (blk_next hb BC.out)
            replace Bx := Lib.hid (blk_next hb Bx.out)
            replace Bd := Lib.hid (blk_next hb Bd.out)
            replace Bg := Lib.hid (blk_next hb Bg.out)
            replace NN := Lib.hid (Bgo NN.out hb)
            clear hb
            go_wp2_with fail
            go_ret
            exact ⟨rfl, NN.out⟩
          · clear FE'
            refine (LC.out _).mono ?_
            rintro e w7 ⟨rfl, hb⟩
            replace BA := Lib.hid (blk_next hb BA.out)
            replace BC := Lib.hid (blk_next hb BC.out)
            replace Bx := Lib.hid (blk_next hb Bx.out)
            replace Bd := Lib.hid (blk_next hb Bd.out)
            replace Bg := Lib.hid (blk_next hb Bg.out)
            replace NN := Lib.hid (Bgo NN.out hb)
            clear hb
            have lBd := blk_lt Bd.out
            have cBd0 := blk_cell Bd.out 0 _ rfl
            have cBd1 := blk_cell Bd.out 1 _ rfl
            have lBg := blk_lt Bg.out
            have cBg0 := blk_cell Bg.out 0 _ rfl
            have cBg1 := blk_cell Bg.out 1 _ rfl
            go_wp2_with fail
            refine (alive_calls _).mono ?_
            rintro e w8 ⟨rfl, hb⟩
            clear lBd cBd0 cBd1 lBg cBg0 cBg1
            replace BA := Lib.hid (blk_next hb BA.out)
            replace BC := Lib.hid (blk_next hb BC.out)
            replace Bx := Lib.hid (blk_next hb Bx.out)
            replace Bd := Lib.hid (blk_next hb Bd.out)
            replace Bg := Lib.hid (blk_next hb Bg.out)
            replace NN := Lib.hid (Bgo NN.out hb)
            clear hb
            go_wp2_with fail
            go_ret
            exact ⟨rfl, NN.out⟩
        · clear FE'
          refine (LC.out _).mono ?_
          rintro e w7 ⟨rfl, hb⟩
          replace BA := Lib.hid (blk_next hb BA.out)
          replace BC := Lib.hid (blk_next hb BC.out)
          replace Bx := Lib.hid (blk_next hb Bx.out)
          replace Bd := Lib.hid (blk_next hb Bd.out)
          replace Bg := Lib.hid (blk_next hb Bg.out)
          replace NN := Lib.hid (Bgo NN.out hb)
          clear hb
          have lBd := blk_lt Bd.out
          have cBd0 := blk_cell Bd.out 0 _ rfl
          have cBd1 := blk_cell Bd.out 1 _ rfl
          have lBg := blk_lt Bg.out
          have cBg0 := blk_cell Bg.out 0 _ rfl
          have cBg1 := blk_cell Bg.out 1 _ rfl
          go_wp2_with fail
          refine (alive_calls _).mono ?_
          rintro e w8 ⟨rfl, hb⟩
          clear lBd cBd0 cBd1 lBg cBg0 cBg1
          replace BA := Lib.hid (blk_next hb BA.out)
          replace BC := Lib.hid (blk_next hb BC.out)
          replace Bx := Lib.hid (blk_next hb Bx.out)
          replace Bd := Lib.hid (blk_next hb Bd.out)
          replace Bg := Lib.hid (blk_next hb Bg.out)
          replace NN := Lib.hid (Bgo NN.out hb)
          clear hb
          go_wp2_with fail
          go_ret
          exact ⟨rfl, NN.out⟩

set_option maxRecDepth 100000 in
theorem lifted (os : Os) (started : os.Started) (H : Type) (enc : TypeId × Value → H) :
    ReturnsInHanded {} Try.checked os 4 .any (Rows.fracBestSpec.pre6 enc Try.prog Try.f4 Rows.fracBestRow.domain false) (Rows.fracBestSpec.post enc Try.prog Try.f4 false true false false) := by
  refine returnsInHanded_of_change (C := Try.checked) own started (by kernel_rfl) Try.func4
    (ChangeSpec.witness6 (enc := enc) (C := Try.checked) false ⟨#[], #[.agg #[.int .i64 0, .int .i64 0], .agg #[.int .i64 0, .int .i64 0], .int .i64 0], []⟩ 8 (by kernel_rfl) (by kernel_rfl) (by kernel_rfl) (by kernel_rfl)) ?_
  intro W base args ds gs before hval0 hW hcnd _
  have hval : ∀ (j : Nat) t v, Try.f4.params[j]? = some t → args[j]? = some v → Value.okWide Try.prog W .any base t v := hval0
  have hW' := hW
  obtain ⟨p, q, hA0, hV, rfl, hfz, hnd⟩ := hW
  have hA : DataW.TrodAll enc Try.prog W 0 (fun _ => true) true Try.f4.params.toList args.toList ds p := hA0
  rw [Try.params4] at hA hval
  obtain ⟨v0, vs0, d0, ds0, p0, q0, hargs, rfl, rfl, h0, r0⟩ := trodAll_cons hA
  obtain ⟨v1, vs1, d1, ds1, p1, q1, rfl, rfl, rfl, h1, r1⟩ := trodAll_cons r0
  obtain ⟨v2, vs2, d2, ds2, p2, q2, rfl, rfl, rfl, h2, r2⟩ := trodAll_cons r1
  obtain ⟨rfl, rfl, rfl⟩ := trodAll_nil r2
  obtain rfl : args = #[v0, v1, v2] := by cases args; simp_all
  obtain ⟨rfl, rfl⟩ := trodVars_none hV
  have k0 := h0
  have lt0 : ∀ x ∈ p0, x.block < W.heap.size := by obtain ⟨m, hm⟩ := k0; exact DataW.trod_lt m _ _ _ hm
  obtain ⟨c0_0, c1_0, y0_0, y1_0, m0, rfl, _, _, t0_0, t1_0⟩ := open_agg2 Try.underlying23 (by kernel_rfl) (show Try.prog.cellsOf 23 = 2 by kernel_rfl) (hval 0 23 v0 rfl rfl) h0
  obtain ⟨an, e0_0, _, wan⟩ := DataW.trod_int Try.underlying2 t0_0
  simp only [List.cons.injEq, and_true] at e0_0
  subst e0_0
  obtain ⟨ad, e1_0, _, wad⟩ := DataW.trod_int Try.underlying2 t1_0
  simp only [List.cons.injEq, and_true] at e1_0
  subst e1_0
  have k1 := h1
  have lt1 : ∀ x ∈ p1, x.block < W.heap.size := by obtain ⟨m, hm⟩ := k1; exact DataW.trod_lt m _ _ _ hm
  obtain ⟨c0_1, c1_1, y0_1, y1_1, m1, rfl, _, _, t0_1, t1_1⟩ := open_agg2 Try.underlying23 (by kernel_rfl) (show Try.prog.cellsOf 23 = 2 by kernel_rfl) (hval 1 23 v1 rfl rfl) h1
  obtain ⟨cn, e0_1, _, wcn⟩ := DataW.trod_int Try.underlying2 t0_1
  simp only [List.cons.injEq, and_true] at e0_1
  subst e0_1
  obtain ⟨cd, e1_1, _, wcd⟩ := DataW.trod_int Try.underlying2 t1_1
  simp only [List.cons.injEq, and_true] at e1_1
  subst e1_1
  have k2 := h2
  have lt2 : ∀ x ∈ p2, x.block < W.heap.size := by obtain ⟨m, hm⟩ := k2; exact DataW.trod_lt m _ _ _ hm
  obtain ⟨m, rfl, _, _, wm⟩ := open_int Try.underlying2 (hval 2 2 v2 rfl rfl) h2
  clear hA0 hval0
  refine (walk an ad cn cd m W (bounds_i64 wm).1 (bounds_i64 wm).2).mono fun e W' ⟨he, bel⟩ => ?_
  subst he
  exact ⟨_, rfl, _, _, _, [], _, [], hW', trodAll_mk1 (shut_bool Try.underlying4 _), (trodAll_cons_mk (Below.trod laidOut (by kernel_rfl) (of_decide_eq_true (by kernel_rfl)) k0 bel lt0) (trodAll_cons_mk (Below.trod laidOut (by kernel_rfl) (of_decide_eq_true (by kernel_rfl)) k1 bel lt1) (trodAll_cons_mk (Below.trod laidOut (by kernel_rfl) (of_decide_eq_true (by kernel_rfl)) k2 bel lt2) trodAll_mk0))), rfl, bel.frame _, fun h => by cases h⟩

theorem over : Rows.fracBestRow.holds Try.pinned (OpenSpec.ofChange Rows.fracBestSpec) :=
  OpenClaim.holds_of_wide 4 Try.f4 rfl rfl rfl rfl rfl rfl rfl ⟨rfl, rfl, rfl, rfl, rfl⟩ rfl rfl rfl rfl rfl (by kernel_rfl) Try.func4 (by kernel_rfl)
    (of_decide_eq_true (by kernel_rfl)) (by unfold Func.isWrapper; first | (rw [if_pos (by decide +kernel)]; kernel_rfl) | (rw [if_neg (by decide +kernel)]; exact ⟨rfl, rfl⟩))
    (fun os started H enc _ => lifted os started H enc)

theorem proved : Rows.FracBestSaid := over
#print axioms proved
end Go.Proofs.Ytpeoecgehdicmaa.fracBest
