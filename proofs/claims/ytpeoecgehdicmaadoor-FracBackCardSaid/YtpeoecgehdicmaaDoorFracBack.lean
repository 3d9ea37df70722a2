/- For every input the law FracBack returns true and leaves its arguments as they were; the library's variables as the program's text lays them. -/
import Derived.Test.YtpeoecgehdicmaaDoorRows
import Derived.Test.YtpeoecgehdicmaaDoorCards
import Derived.Test.YtpeoecgehdicmaaDoorTie
import Derived.Test.YtpeoecgehdicmaaDoorFtg
import Derived.WalkKit
import Derived.ProofKit
import Derived.OpenShut
import Derived.ShutString
import Derived.ChangeOld
import Derived.Below
import Derived.Lib.SmallJoins
import Derived.Deep.DeepHandedRow
import Derived.LaidLaws
import Derived.SevenTiedAt
namespace Go.Proofs.YtpeoecgehdicmaaDoor.fracBack
open Go.ChangeShapes Go.WideShapes Go.ChangeAt Go.RowKit Go.Joins
open Go.ChangeMaps (open_string shut_string)
set_option linter.unusedVariables false

theorem own : ownKnob Tryd.prog.godebug = none := by kernel_rfl
theorem laidOut : laidOutB Tryd.prog = true := by kernel_rfl
set_option maxRecDepth 100000 in
set_option maxHeartbeats 4000000 in
theorem walk (an ad : Int) (A : Option Addr) (c : Nat) (L : List Int) (w : World) (g : GL w) (hL : ∀ x ∈ L, -9223372036854775808 ≤ x ∧ x ≤ 9223372036854775807) (h1 : L.length ≤ c) (h2 : c ≤ 9223372036854775807) (ha : Rd w 1 A L.length (lv L)) :
    Calls Tryd.prog 4 #[Fv an ad, .slice A L.length c] w fun e w' => e = .returned (.bool true) ∧ Below w.heap.size w w' := by
  have C1 := Lib.hid (fun W => refCheck_calls an ad W)
  have GG := Lib.hid g
  have HL := Lib.hid hL
  have HA := Lib.hid ha
  clear g hL ha
  by_cases ck : errF an ad = 0
  rotate_left
  · have ck' : (errF an ad != 0) = true := by rw [bne_iff_ne]; exact ck
    generalize errF an ad = er at *
    clear ck
    go_enter Tryd.func4, Tryd.ntmps4
    go_wp2_with fail
    have BA := Lib.hid (blk_new w (.cells #[.int .i64 an, .int .i64 ad] 23))
    have NN := Lib.hid (Bal (Below.refl w.heap.size w) (.cells #[.int .i64 an, .int .i64 ad] 23))
    replace GG := Lib.hid (GG.out.next NN.out)
    replace HA := Lib.hid (HA.out.next NN.out)
    generalize w.alloc (.cells #[.int .i64 an, .int .i64 ad] 23) = W0 at *
    refine (C1.out _).mono ?_
    rintro e w1 ⟨rfl, hb⟩
    replace BA := Lib.hid (blk_next hb BA.out)
    replace NN := Lib.hid (Bgo NN.out hb)
    replace GG := Lib.hid (GG.out.next hb)
    replace HA := Lib.hid (HA.out.next hb)
    clear hb
    go_wp2_with fail
    refine (alive_calls _).mono ?_
    rintro e w2 ⟨rfl, hb⟩
    replace BA := Lib.hid (blk_next hb BA.out)
    replace NN := Lib.hid (Bgo NN.out hb)
    replace GG := Lib.hid (GG.out.next hb)
    replace HA := Lib.hid (HA.out.next hb)
    clear hb
    go_wp2_with fail
    go_ret
    exact ⟨rfl, NN.out⟩
  have va := errF_ok ck
  rw [ck] at C1
  by_cases big : 100 < L.length
  · have bg : decide ((100 : Int) < ((L.length : Nat) : Int)) = true := decide_eq_true (by omega)
    clear big ck va
    go_enter Tryd.func4, Tryd.ntmps4
    go_wp2_with fail
    have BA := Lib.hid (blk_new w (.cells #[.int .i64 an, .int .i64 ad] 23))
    have NN := Lib.hid (Bal (Below.refl w.heap.size w) (.cells #[.int .i64 an, .int .i64 ad] 23))
    replace GG := Lib.hid (GG.out.next NN.out)
    replace HA := Lib.hid (HA.out.next NN.out)
    generalize w.alloc (.cells #[.int .i64 an, .int .i64 ad] 23) = W0 at *
    refine (C1.out _).mono ?_
    rintro e w1 ⟨rfl, hb⟩
    replace BA := Lib.hid (blk_next hb BA.out)
    replace NN := Lib.hid (Bgo NN.out hb)
    replace GG := Lib.hid (GG.out.next hb)
    replace HA := Lib.hid (HA.out.next hb)
    clear hb
    go_wp2_with fail
    refine (alive_calls _).mono ?_
    rintro e w2 ⟨rfl, hb⟩
    replace BA := Lib.hid (blk_next hb BA.out)
    replace NN := Lib.hid (Bgo NN.out hb)
    replace GG := Lib.hid (GG.out.next hb)
    replace HA := Lib.hid (HA.out.next hb)
    clear hb
    go_wp2_with fail
    go_ret
    exact ⟨rfl, NN.out⟩
  have bg : decide ((100 : Int) < ((L.length : Nat) : Int)) = false := decide_eq_false (by omega)
  have X := exv va
  obtain ⟨M, hM⟩ : ∃ M, exR an ad = M := ⟨_, rfl⟩
  rw [hM] at X
  clear hM
  obtain ⟨xz, xp, xl, xh, xe, xt, xf⟩ := X
  have EX := Lib.hid (fun W => exC (n := M.length) xz rfl ck W)
  have FO := Lib.hid (fun (A2 : Option Addr) (c2 : Nat) W (q1 : M.length ≤ c2) (q2 : c2 ≤ 9223372036854775807) h => fold_calls A2 c2 M W xe q1 q2 h)
  rw [xf] at FO
  have XH := Lib.hid xh
  have XT := Lib.hid xt
  have TC := Lib.hid (fun W (h : GL W) => text_calls an ad W h)
  rw [va.tx, ck] at TC
  have PC := Lib.hid (fun W (h : GL W) => parseP_calls ⟨(textL an ad).toArray⟩ W h)
  have PU : Hid (∀ r, PR (⟨(textL an ad).toArray⟩ : ByteArray).data.toList r → r = (an, ad, 0)) := Lib.hid (fun r h => h.unique (.inl ⟨rfl, va, by simp⟩))
  have FL := Lib.hid (fun W => floorF_calls an ad W)
  rw [ck, show flR an ad = an / ad by unfold flR; rw [if_pos ck]] at FL
  have FO2 := Lib.hid (fun W h => fold_calls A c L W HL.out h1 h2 h)
  have FOK := Lib.hid (fun (x y : Int) (h : foldR L = (x, y, 0)) => fold_ok h)
  have FER := Lib.hid (foldR_err L)
  clear xz xe xt xf xh ck va
  generalize textL an ad = tx at *
  generalize an / ad = fl at *
  obtain ⟨r, hr⟩ : ∃ r, foldR L = r := ⟨_, rfl⟩
  rw [hr] at FO2 FOK FER
  clear hr
  go_enter Tryd.func4, Tryd.ntmps4
  go_wp2_with fail
  have BA := Lib.hid (blk_new w (.cells #[.int .i64 an, .int .i64 ad] 23))
  have NN := Lib.hid (Bal (Below.refl w.heap.size w) (.cells #[.int .i64 an, .int .i64 ad] 23))
  replace GG := Lib.hid (GG.out.next NN.out)
  replace HA := Lib.hid (HA.out.next NN.out)
  generalize w.alloc (.cells #[.int .i64 an, .int .i64 ad] 23) = W0 at *
  refine (C1.out _).mono ?_
  rintro e w1 ⟨rfl, hb⟩
  replace BA := Lib.hid (blk_next hb BA.out)
  replace NN := Lib.hid (Bgo NN.out hb)
  replace GG := Lib.hid (GG.out.next hb)
  replace HA := Lib.hid (HA.out.next hb)
  clear hb
  have lBA := blk_lt BA.out
  have cBA0 := blk_cell BA.out 0 _ rfl
  have cBA1 := blk_cell BA.out 1 _ rfl
  go_wp2_with fail
  refine (EX.out _).mono ?_
  rintro e w2 ⟨A2, c2, rfl, q1, q2, hr, hb⟩
  have RM := Lib.hid hr
  clear hr
  clear lBA cBA0 cBA1
  replace BA := Lib.hid (blk_next hb BA.out)
  replace NN := Lib.hid (Bgo NN.out hb)
  replace GG := Lib.hid (GG.out.next hb)
  replace HA := Lib.hid (HA.out.next hb)
  clear hb
  go_wp2_with fail
  refine (FO.out A2 c2 _ q1 q2 RM.out).mono ?_
  rintro e w3 ⟨rfl, hb⟩
  replace BA := Lib.hid (blk_next hb BA.out)
  replace NN := Lib.hid (Bgo NN.out hb)
  replace GG := Lib.hid (GG.out.next hb)
  replace HA := Lib.hid (HA.out.next hb)
  replace RM := Lib.hid (RM.out.next hb)
  clear hb FO
  have HB : Hid (Below w3.heap.size w3 (w3.alloc (.cells #[.int .i64 an, .int .i64 ad] 23))) := Lib.hid (Bal (Below.refl _ _) _)
  have Bb := Lib.hid (blk_new w3 (.cells #[.int .i64 an, .int .i64 ad] 23))
  replace BA := Lib.hid (blk_next HB.out BA.out)
  replace NN := Lib.hid (Bgo NN.out HB.out)
  replace GG := Lib.hid (GG.out.next HB.out)
  replace HA := Lib.hid (HA.out.next HB.out)
  replace RM := Lib.hid (RM.out.next HB.out)
  clear HB
  have lBA := blk_lt BA.out
  have cBA0 := blk_cell BA.out 0 _ rfl
  have cBA1 := blk_cell BA.out 1 _ rfl
  go_wp2_with fail
  clear lBA cBA0 cBA1
  generalize w3.alloc (.cells #[.int .i64 an, .int .i64 ad] 23) = W4 at *
  generalize w3.heap.size = gb at *
  refine (TC.out _ GG.out).mono ?_
  rintro e w5 ⟨rfl, hb⟩
  replace BA := Lib.hid (blk_next hb BA.out)
  replace NN := Lib.hid (Bgo NN.out hb)
  replace GG := Lib.hid (GG.out.next hb)
  replace HA := Lib.hid (HA.out.next hb)
  replace RM := Lib.hid (RM.out.next hb)
  replace Bb := Lib.hid (blk_next hb Bb.out)
  clear hb
  go_wp2_with fail
  refine (PC.out _ GG.out).mono ?_
  rintro e w6 ⟨rp, rfl, hp, hb⟩
  obtain rfl := PU.out _ hp
  clear hp PU PC
  replace BA := Lib.hid (blk_next hb BA.out)
  replace NN := Lib.hid (Bgo NN.out hb)
  replace GG := Lib.hid (GG.out.next hb)
  replace HA := Lib.hid (HA.out.next hb)
  replace RM := Lib.hid (RM.out.next hb)
  replace Bb := Lib.hid (blk_next hb Bb.out)
  clear hb
  have HB : Hid (Below w6.heap.size w6 (w6.alloc (.cells #[.int .i64 an, .int .i64 ad] 23))) := Lib.hid (Bal (Below.refl _ _) _)
  have Bc := Lib.hid (blk_new w6 (.cells #[.int .i64 an, .int .i64 ad] 23))
  replace BA := Lib.hid (blk_next HB.out BA.out)
  replace NN := Lib.hid (Bgo NN.out HB.out)
  replace GG := Lib.hid (GG.out.next HB.out)
  replace HA := Lib.hid (HA.out.next HB.out)
  replace RM := Lib.hid (RM.out.next HB.out)
  replace Bb := Lib.hid (blk_next HB.out Bb.out)
  clear HB
  have lBA := blk_lt BA.out
  have cBA0 := blk_cell BA.out 0 _ rfl
  have cBA1 := blk_cell BA.out 1 _ rfl
  go_wp2_with fail
  clear lBA cBA0 cBA1
  generalize w6.alloc (.cells #[.int .i64 an, .int .i64 ad] 23) = W7 at *
  generalize w6.heap.size = gc at *
  have lM := Rd.num RM.out xp
  obtain ⟨mb, mo, rfl, lm, cm⟩ := lM
  rw [Nat.add_zero] at cm
  have CM : Hid (∀ W, Below W7.heap.size W7 W → mb < W.heap.size ∧ ∀ (i : Nat) (x : Int), M[i]? = some x → W.cell? ⟨mb, mo + i, none⟩ = some (.int .i64 x)) := Lib.hid (fun W hb => ⟨Nat.lt_of_lt_of_le lm hb.size, fun i x hx => by
    obtain ⟨hi, rfl⟩ := List.getElem?_eq_some_iff.1 hx
    obtain ⟨b', off', e, _, hcell⟩ := RM.out.num hi
    simp only [Option.some.injEq, Addr.mk.injEq] at e
    obtain ⟨rfl, rfl, _⟩ := e
    exact (hb.cell lm).trans hcell⟩)
  have NM := Lib.hid (Below.refl W7.heap.size W7)
  clear lm cm RM
  have xp' : ¬ M.length = 0 := by omega
  have xl' : decide ((100 : Int) < ((M.length : Nat) : Int)) = false := decide_eq_false (by omega)
  have xz' : (((M.length : Nat) : Int) == 0) = false := by rw [beq_eq_false_iff_ne]; omega
  have xp2 : (0 : Int) < ((M.length : Nat) : Int) := by omega
  refine (FL.out _).mono ?_
  rintro e w8 ⟨rfl, hb⟩
  replace BA := Lib.hid (blk_next hb BA.out)
  replace NN := Lib.hid (Bgo NN.out hb)
  replace GG := Lib.hid (GG.out.next hb)
  replace HA := Lib.hid (HA.out.next hb)
  replace Bb := Lib.hid (blk_next hb Bb.out)
  replace Bc := Lib.hid (blk_next hb Bc.out)
  replace NM := Lib.hid (Bgo NM.out hb)
  clear hb FL
  obtain ⟨lm, cmf⟩ := CM.out _ NM.out
  have cm := cmf 0 _ XH.out
  rw [Nat.add_zero] at cm
  clear cmf
  have lBA := blk_lt BA.out
  have cBA0 := blk_cell BA.out 0 _ rfl
  have cBA1 := blk_cell BA.out 1 _ rfl
  have lBb := blk_lt Bb.out
  have cBb0 := blk_cell Bb.out 0 _ rfl
  have cBb1 := blk_cell Bb.out 1 _ rfl
  have lBc := blk_lt Bc.out
  have cBc0 := blk_cell Bc.out 0 _ rfl
  have cBc1 := blk_cell Bc.out 1 _ rfl
  go_wp2_with fail
  clear lBA cBA0 cBA1 lBb cBb0 cBb1 lBc cBc0 cBc1
  clear cm lm
  go_loopw [15] (fun i wr => ∃ k : Nat, 1 ≤ k ∧ k ≤ M.length ∧ i = .int .i64 k ∧ wr = w8) (fun i _ => M.length - (intOf i).toNat)
  case atStart => exact ⟨1, by omega, by omega, rfl, rfl⟩
  case round =>
    obtain ⟨k, hk1, hk2, rfl, rfl⟩ := hrel
    by_cases hlt : k < M.length
    · obtain ⟨x, hx⟩ := get_some hlt
      obtain ⟨x1, x2⟩ := XT.out k x hk1 hx
      obtain ⟨lm, cmf⟩ := CM.out _ NM.out
      have cm := cmf k x hx
      clear cmf hx
      have km0 : (0 : Int) ≤ (k : Int) := by omega
      have km1 : (k : Int) < (M.length : Int) := by omega
      have x3 : ¬ x < 1 := by omega
      by_cases kl : k + 1 = M.length
      · have kk : ((k : Int) == (M.length : Int) - 1) = true := by rw [beq_iff_eq]; omega
        have x4 : ¬ x < 2 := by have := x2 kl; omega
        have k3 : k + 1 ≤ M.length := by omega
        clear kl x2
        go_wp2_with fail
        exact ⟨⟨k + 1, by omega, k3, by go_num, by first | rfl | trivial⟩, by simp [intOf]; omega⟩
      · have kk : ((k : Int) == (M.length : Int) - 1) = false := by rw [beq_eq_false_iff_ne]; omega
        have k3 : k + 1 ≤ M.length := by omega
        clear kl x2
        go_wp2_with fail
        exact ⟨⟨k + 1, by omega, k3, by go_num, by first | rfl | trivial⟩, by simp [intOf]; omega⟩
    obtain rfl : k = M.length := by omega
    clear hlt hk1 hk2 XT XH
    go_wp2_with fail
    obtain ⟨r1, r2, r3⟩ := r
    by_cases ez : r3 = 0
    rotate_left
    · rcases FER.out with h | h | h | h
      · exact absurd h ez
      · cases h
        clear ez FER FOK
        refine (FO2.out _ HA.out).mono ?_
        rintro e w9 ⟨rfl, hb⟩
        replace BA := Lib.hid (blk_next hb BA.out)
        replace NN := Lib.hid (Bgo NN.out hb)
        replace GG := Lib.hid (GG.out.next hb)
        replace HA := Lib.hid (HA.out.next hb)
        replace Bb := Lib.hid (blk_next hb Bb.out)
        replace Bc := Lib.hid (blk_next hb Bc.out)
        replace NM := Lib.hid (Bgo NM.out hb)
        clear hb FO2
        have HB : Hid (Below w9.heap.size w9 (w9.alloc (.cells #[.int .i64 0, .int .i64 0] 23))) := Lib.hid (Bal (Below.refl _ _) _)
        have Bf := Lib.hid (blk_new w9 (.cells #[.int .i64 0, .int .i64 0] 23))
        replace BA := Lib.hid (blk_next HB.out BA.out)
        replace NN := Lib.hid (Bgo NN.out HB.out)
        replace GG := Lib.hid (GG.out.next HB.out)
        replace HA := Lib.hid (HA.out.next HB.out)
        replace Bb := Lib.hid (blk_next HB.out Bb.out)
        replace Bc := Lib.hid (blk_next HB.out Bc.out)
        replace NM := Lib.hid (Bgo NM.out HB.out)
        clear HB
        go_wp2_with fail
        generalize w9.alloc (.cells #[.int .i64 0, .int .i64 0] 23) = W10 at *
        generalize w9.heap.size = gf at *
        refine (alive_calls _).mono ?_
        rintro e w11 ⟨rfl, hb⟩
        replace BA := Lib.hid (blk_next hb BA.out)
        replace NN := Lib.hid (Bgo NN.out hb)
        replace GG := Lib.hid (GG.out.next hb)
        replace HA := Lib.hid (HA.out.next hb)
        replace Bb := Lib.hid (blk_next hb Bb.out)
        replace Bc := Lib.hid (blk_next hb Bc.out)
        replace NM := Lib.hid (Bgo NM.out hb)
        replace Bf := Lib.hid (blk_next hb Bf.out)
        clear hb
        go_wp2_with fail
        go_ret
        exact ⟨rfl, NN.out⟩
      · cases h
        clear ez FER FOK
        refine (FO2.out _ HA.out).mono ?_
        rintro e w9 ⟨rfl, hb⟩
        replace BA := Lib.hid (blk_next hb BA.out)
        replace NN := Lib.hid (Bgo NN.out hb)
        replace GG := Lib.hid (GG.out.next hb)
        replace HA := Lib.hid (HA.out.next hb)
        replace Bb := Lib.hid (blk_next hb Bb.out)
        replace Bc := Lib.hid (blk_next hb Bc.out)
        replace NM := Lib.hid (Bgo NM.out hb)
        clear hb FO2
        have HB : Hid (Below w9.heap.size w9 (w9.alloc (.cells #[.int .i64 0, .int .i64 0] 23))) := Lib.hid (Bal (Below.refl _ _) _)
        have Bf := Lib.hid (blk_new w9 (.cells #[.int .i64 0, .int .i64 0] 23))
        replace BA := Lib.hid (blk_next HB.out BA.out)
        replace NN := Lib.hid (Bgo NN.out HB.out)
        replace GG := Lib.hid (GG.out.next HB.out)
        replace HA := Lib.hid (HA.out.next HB.out)
        replace Bb := Lib.hid (blk_next HB.out Bb.out)
        replace Bc := Lib.hid (blk_next HB.out Bc.out)
        replace NM := Lib.hid (Bgo NM.out HB.out)
        clear HB
        go_wp2_with fail
        generalize w9.alloc (.cells #[.int .i64 0, .int .i64 0] 23) = W10 at *
        generalize w9.heap.size = gf at *
        refine (alive_calls _).mono ?_
        rintro e w11 ⟨rfl, hb⟩
        replace BA := Lib.hid (blk_next hb BA.out)
        replace NN := Lib.hid (Bgo NN.out hb)
        replace GG := Lib.hid (GG.out.next hb)
        replace HA := Lib.hid (HA.out.next hb)
        replace Bb := Lib.hid (blk_next hb Bb.out)
        replace Bc := Lib.hid (blk_next hb Bc.out)
        replace NM := Lib.hid (Bgo NM.out hb)
        replace Bf := Lib.hid (blk_next hb Bf.out)
        clear hb
        go_wp2_with fail
        go_ret
        exact ⟨rfl, NN.out⟩
      · cases h
        clear ez FER FOK
        refine (FO2.out _ HA.out).mono ?_
        rintro e w9 ⟨rfl, hb⟩
        replace BA := Lib.hid (blk_next hb BA.out)
        replace NN := Lib.hid (Bgo NN.out hb)
        replace GG := Lib.hid (GG.out.next hb)
        replace HA := Lib.hid (HA.out.next hb)
        replace Bb := Lib.hid (blk_next hb Bb.out)
        replace Bc := Lib.hid (blk_next hb Bc.out)
        replace NM := Lib.hid (Bgo NM.out hb)
        clear hb FO2
        have HB : Hid (Below w9.heap.size w9 (w9.alloc (.cells #[.int .i64 0, .int .i64 0] 23))) := Lib.hid (Bal (Below.refl _ _) _)
        have Bf := Lib.hid (blk_new w9 (.cells #[.int .i64 0, .int .i64 0] 23))
        replace BA := Lib.hid (blk_next HB.out BA.out)
        replace NN := Lib.hid (Bgo NN.out HB.out)
        replace GG := Lib.hid (GG.out.next HB.out)
        replace HA := Lib.hid (HA.out.next HB.out)
        replace Bb := Lib.hid (blk_next HB.out Bb.out)
        replace Bc := Lib.hid (blk_next HB.out Bc.out)
        replace NM := Lib.hid (Bgo NM.out HB.out)
        clear HB
        go_wp2_with fail
        generalize w9.alloc (.cells #[.int .i64 0, .int .i64 0] 23) = W10 at *
        generalize w9.heap.size = gf at *
        refine (alive_calls _).mono ?_
        rintro e w11 ⟨rfl, hb⟩
        replace BA := Lib.hid (blk_next hb BA.out)
        replace NN := Lib.hid (Bgo NN.out hb)
        replace GG := Lib.hid (GG.out.next hb)
        replace HA := Lib.hid (HA.out.next hb)
        replace Bb := Lib.hid (blk_next hb Bb.out)
        replace Bc := Lib.hid (blk_next hb Bc.out)
        replace NM := Lib.hid (Bgo NM.out hb)
        replace Bf := Lib.hid (blk_next hb Bf.out)
        clear hb
        go_wp2_with fail
        go_ret
        exact ⟨rfl, NN.out⟩
    subst ez
    obtain ⟨l0, l100, vf, fx, fz⟩ := FOK.out r1 r2 rfl
    have EXD := Lib.hid (fun W => exC (n := (wantF L).length) fx rfl vf.err W)
    have FX := Lib.hid (show ∀ z ∈ L, z ≤ 1000000000000000000 from fz)
    clear FOK FER fx fz vf
    obtain ⟨i0, hi0, hz0, hz1, hz2⟩ := info_parts i64_info
    have HI := Lib.hid (And.intro hi0 (And.intro hz0 (And.intro hz1 hz2)))
    clear hi0 hz0 hz1 hz2
    refine (FO2.out _ HA.out).mono ?_
    rintro e w9 ⟨rfl, hb⟩
    replace BA := Lib.hid (blk_next hb BA.out)
    replace NN := Lib.hid (Bgo NN.out hb)
    replace GG := Lib.hid (GG.out.next hb)
    replace HA := Lib.hid (HA.out.next hb)
    replace Bb := Lib.hid (blk_next hb Bb.out)
    replace Bc := Lib.hid (blk_next hb Bc.out)
    replace NM := Lib.hid (Bgo NM.out hb)
    clear hb FO2
    have HB : Hid (Below w9.heap.size w9 (w9.alloc (.cells #[.int .i64 r1, .int .i64 r2] 23))) := Lib.hid (Bal (Below.refl _ _) _)
    have Bf := Lib.hid (blk_new w9 (.cells #[.int .i64 r1, .int .i64 r2] 23))
    replace BA := Lib.hid (blk_next HB.out BA.out)
    replace NN := Lib.hid (Bgo NN.out HB.out)
    replace GG := Lib.hid (GG.out.next HB.out)
    replace HA := Lib.hid (HA.out.next HB.out)
    replace Bb := Lib.hid (blk_next HB.out Bb.out)
    replace Bc := Lib.hid (blk_next HB.out Bc.out)
    replace NM := Lib.hid (Bgo NM.out HB.out)
    clear HB
    go_wp2_with fail
    generalize w9.alloc (.cells #[.int .i64 r1, .int .i64 r2] 23) = W10 at *
    generalize w9.heap.size = gf at *
    refine (EXD.out _).mono ?_
    rintro e w11 ⟨A9, c9, rfl, q3, q4, hr, hb⟩
    have RW := Lib.hid hr
    clear hr
    replace BA := Lib.hid (blk_next hb BA.out)
    replace NN := Lib.hid (Bgo NN.out hb)
    replace GG := Lib.hid (GG.out.next hb)
    replace HA := Lib.hid (HA.out.next hb)
    replace Bb := Lib.hid (blk_next hb Bb.out)
    replace Bc := Lib.hid (blk_next hb Bc.out)
    replace NM := Lib.hid (Bgo NM.out hb)
    replace Bf := Lib.hid (blk_next hb Bf.out)
    clear hb EXD
    have NW := Lib.hid (Below.refl w11.heap.size w11)
    have NK := Lib.hid NN.out
    clear NM CM
    go_wp2_with (at_builtin; refine wpList_append_rd _ rfl (.tmp 150) (.tmp 151) _ rfl w11.heap.size 2 i0 _ 1 8 Tryd.underlying24 HI.out.1 HI.out.2.1 HI.out.2.2.1 HI.out.2.2.2 rfl (by omega) _ 0 [] rfl (own_empty (blk_new _ _) (Nat.le_refl _)) A L.length c (lv L) rfl (HA.out.next (Bal (Below.refl _ _) _)) (lv_one L) (by simp only [maxLen]; omega) (by omega) (by simp) ?_; intro v1 wa hown1 hg1 hat1; have O1 := Lib.hid hown1; have hb : Below w11.heap.size w11 wa := gfresh hg1; clear hown1 hg1 hat1; refine Hid.out ?_)
    refine Lib.hid ?_
    replace BA := Lib.hid (blk_next hb BA.out)
    replace NN := Lib.hid (Bgo NN.out hb)
    replace GG := Lib.hid (GG.out.next hb)
    replace HA := Lib.hid (HA.out.next hb)
    replace Bb := Lib.hid (blk_next hb Bb.out)
    replace Bc := Lib.hid (blk_next hb Bc.out)
    replace Bf := Lib.hid (blk_next hb Bf.out)
    replace NW := Lib.hid (Bgo NW.out hb)
    clear hb
    have o1 := O1.out
    simp only [Nat.zero_add, List.nil_append] at o1
    obtain ⟨g, cap, cur, rfl, hg1, hblk, hc1, hc2, hcur⟩ := own_blk o1 l0
    have HB := Lib.hid hblk
    have HC := Lib.hid hcur
    clear O1 o1 hblk hcur
    have SM := Lib.hid (fun (l : List Int) (a b : Option Addr) (ca cb : Nat) W (q1 : l.length ≤ ca) (q2 : ca ≤ 9223372036854775807) (q3 : l.length ≤ cb) (q4 : cb ≤ 9223372036854775807) ha hb => sameC (a := a) (b := b) (n := l.length) (ca := ca) (cb := cb) (l := l) rfl W q1 q2 q3 q4 ha hb)
    obtain ⟨z, hz⟩ := get_some (show L.length - 1 < L.length by omega)
    have cz := blk_cell HB.out (L.length - 1) _ (HC.out _ _ (lv_get hz))
    have lg := blk_lt HB.out
    by_cases one : 2 ≤ L.length ∧ z = 1
    · obtain ⟨two, rfl⟩ := one
      obtain ⟨y, hy⟩ := get_some (show L.length - 2 < L.length by omega)
      have yb := FX.out y (List.mem_of_getElem? hy)
      have yl := (HL.out y (List.mem_of_getElem? hy)).1
      have WE : wantF L = wantM L := want_one L two (by rw [List.getD_eq_getElem?_getD, hz]; rfl)
      have WM : wantM L = (L.set (L.length - 2) (y + 1)).take (L.length - 1) := by unfold wantM; rw [List.getD_eq_getElem?_getD, hy]; rfl
      have wlen : (wantF L).length = L.length - 1 := by rw [WE, WM]; simp
      have cy := blk_cell HB.out (L.length - 2) _ (HC.out _ _ (lv_get hy))
      have fy := blk_frozen HB.out (L.length - 2)
      have HB2 := Lib.hid (blk_set HB.out (L.length - 2) (.int .i64 (y + 1)))
      have RV : Hid (Rd (wa.setCell ⟨g, L.length - 2, none⟩ (.int .i64 (y + 1))) 1 (some ⟨g, 0, none⟩) (wantF L).length (lv (wantF L))) := Lib.hid (rd_blk HB2.out (fun j u hu => by
        rw [WE, WM] at hu
        simp only [lv, List.getElem?_map, List.getElem?_take, List.getElem?_set] at hu
        rw [Array.getElem?_setIfInBounds]
        have hcy := HC.out _ _ (lv_get hy)
        have hs : L.length - 2 < cur.size := (Array.getElem?_eq_some_iff.1 hcy).1
        by_cases e : L.length - 2 = j
        · subst e
          rw [if_pos rfl, if_pos hs]
          rw [if_pos (by omega), if_pos rfl, if_pos (by omega)] at hu
          simpa using hu
        · rw [if_neg e]
          by_cases t : j < L.length - 1
          · rw [if_pos t, if_neg e] at hu
            exact HC.out j u (by rw [lv, List.getElem?_map]; exact hu)
          · rw [if_neg t] at hu; cases hu))
      have hgw : w.heap.size ≤ g := Nat.le_trans (Nat.le_trans NK.out.size (Nat.le_refl _)) hg1
      have RW2 : Hid (Rd (wa.setCell ⟨g, L.length - 2, none⟩ (.int .i64 (y + 1))) 1 A9 (wantF L).length (lv (wantF L))) := Lib.hid (RW.out.next (Bset1 NW.out hg1 _ _))
      have N2 : Hid (Below w.heap.size w (wa.setCell ⟨g, L.length - 2, none⟩ (.int .i64 (y + 1)))) := Lib.hid (Bset1 NN.out hgw _ _)
      have t1 : decide ((1 : Int) < ((L.length : Nat) : Int)) = true := decide_eq_true (by omega)
      have t2 : (1 : Int) < ((L.length : Nat) : Int) := by omega
      have e2 : L.length - 1 - 1 = L.length - 2 := by omega
      have wy : IntKind.i64.wrap (y + 1) = y + 1 := by rw [IntKind.wrap_i64]; omega
      have cw : L.length - 1 ≤ cap := by omega
      rw [wlen] at RW2 RV q3
      have SC := Lib.hid (sameC (n := L.length - 1) (l := wantF L) wlen (wa.setCell ⟨g, L.length - 2, none⟩ (.int .i64 (y + 1))) q3 q4 cw hc2 RW2.out RV.out)
      clear WE WM RW RW2 RV NW HB HB2 HC hz hy NN HA GG BA Bb Bc Bf
      go_wp2_with fail
      clear wlen
      with_reducible refine SC.out.mono ?_
      rintro e wx ⟨rfl, hb⟩
      have NX := Lib.hid (Bgo N2.out hb)
      clear hb
      go_wp2_with fail
      refine (alive_calls _).mono ?_
      rintro e wy' ⟨rfl, hb⟩
      replace NX := Lib.hid (Bgo NX.out hb)
      clear hb
      go_wp2_with fail
      go_ret
      exact ⟨rfl, NX.out⟩
    have WE : wantF L = L := want_other L (fun two k => one ⟨two, by rw [List.getD_eq_getElem?_getD, hz] at k; exact k⟩)
    rw [WE] at RW q3
    have RV : Hid (Rd wa 1 (some ⟨g, 0, none⟩) L.length (lv L)) := Lib.hid (rd_blk HB.out HC.out)
    have RW2 : Hid (Rd wa 1 A9 L.length (lv L)) := Lib.hid (RW.out.next NW.out)
    have SC := Lib.hid (sameC (n := L.length) (l := L) rfl wa q3 q4 hc1 hc2 RW2.out RV.out)
    clear RV RW RW2 NW HB HC HA GG BA Bb Bc Bf hz
    by_cases l1 : L.length = 1
    · have t1 : decide ((1 : Int) < ((L.length : Nat) : Int)) = false := decide_eq_false (by omega)
      have t2 : ¬ (1 : Int) < ((L.length : Nat) : Int) := by omega
      have t3 : L.length ≤ 1 := by omega
      clear one l1
      go_wp2_with fail
      with_reducible refine SC.out.mono ?_
      rintro e wx ⟨rfl, hb⟩
      have NX := Lib.hid (Bgo NN.out hb)
      clear hb
      go_wp2_with fail
      refine (alive_calls _).mono ?_
      rintro e wy' ⟨rfl, hb⟩
      replace NX := Lib.hid (Bgo NX.out hb)
      clear hb
      go_wp2_with fail
      go_ret
      exact ⟨rfl, NX.out⟩
    · have t1 : decide ((1 : Int) < ((L.length : Nat) : Int)) = true := decide_eq_true (by omega)
      have t2 : (1 : Int) < ((L.length : Nat) : Int) := by omega
      have t3 : 1 < L.length := by omega
      have zn : ¬ z = 1 := fun e => one ⟨by omega, e⟩
      clear one l1
      go_wp2_with fail
      with_reducible refine SC.out.mono ?_
      rintro e wx ⟨rfl, hb⟩
      have NX := Lib.hid (Bgo NN.out hb)
      clear hb
      go_wp2_with fail
      refine (alive_calls _).mono ?_
      rintro e wy' ⟨rfl, hb⟩
      replace NX := Lib.hid (Bgo NX.out hb)
      clear hb
      go_wp2_with fail
      go_ret
      exact ⟨rfl, NX.out⟩

abbrev synS : ByteArray := { data := #[105, 110, 118, 97, 108, 105, 100, 32, 115, 121, 110, 116, 97, 120] }
abbrev rngS : ByteArray := { data := #[118, 97, 108, 117, 101, 32, 111, 117, 116, 32, 111, 102, 32, 114, 97, 110, 103, 101] }
noncomputable def low : Nat := (World.holding Tryd.prog default ⟨#[], #[], []⟩).heap.size
def vals : DataW Unit → Array Value
  | .agg l => (l.map fun d => match d with | .lit (.int k z) => Value.int k z | _ => undef).toArray
  | _ => #[]
def put (vs : Array Value) : Obj → Obj
  | .cells _ t frozen => .cells vs t frozen
  | o => o
noncomputable def laidWorld (os : Os) : World :=
  let w0 := World.holding Tryd.prog os ⟨#[.cells #[.string rngS] 125, .cells #[.string synS] 125], #[], []⟩
  { w0 with heap := ((((w0.heap.modify 6 (put (vals Rows.laid_math_bits_deBruijn32tab))).modify 7 (put (vals Rows.laid_math_bits_deBruijn64tab))).modify 2 (put (vals Rows.laid_internal_strconv_uint64pow10))).modify 5 (put #[.iface 123 (.pointer (some ⟨low, 0, none⟩))])).modify 4 (put #[.iface 123 (.pointer (some ⟨low + 1, 0, none⟩))]) }
theorem laid_met (os : Os) (args : Array Value) : laidMet Tryd.prog Rows.fracBackRow.laid ((laidWorld os).forCall (fun _ _ => 0) ⟨#[], args, []⟩).memory :=
  laidMet_of_run' 8 (by kernel_rfl) (by kernel_rfl)

set_option maxRecDepth 100000 in
set_option maxHeartbeats 4000000 in
theorem lifted (os : Os) (started : os.Started) (H : Type) (enc : TypeId × Value → H) (F0 : Stop.Interp) :
    ReturnsInHanded {} Tryd.checked os 4 .any ((OpenSpec.ofChange Rows.fracBackSpec).preRow enc Tryd.prog Tryd.f4 Rows.fracBackRow.domain false Rows.fracBackRow.laid) (((OpenSpec.ofChange Rows.fracBackSpec).at F0).post enc Tryd.prog Tryd.f4 false true false false) := by
  refine returnsInHanded_of_row (C := Tryd.checked) (s := OpenSpec.ofChange Rows.fracBackSpec) own started (by kernel_rfl) Tryd.func4
    (witness_row_at (enc := enc) (C := Tryd.checked) false (laidWorld os) #[.agg #[.int .i64 0, .int .i64 0], .slice none 0 0] rfl (by kernel_rfl) (by kernel_rfl) (by kernel_rfl) (OpenSpec.preRow_of_B rfl 8 (by kernel_rfl) (by kernel_rfl) (laid_met os _))) ?_
  intro W base args ds gs before hval0 hW hcnd _ hsz0 hL hsh _
  have GLW := gl_of hL hsh
  clear hL hsh hsz0 hcnd
  have hval : ∀ (j : Nat) t v, Tryd.f4.params[j]? = some t → args[j]? = some v → Value.okWide Tryd.prog W .any base t v := hval0
  have hW' := hW
  obtain ⟨p, q, hA0, hV, rfl, hfz, hnd⟩ := hW
  have hA : DataW.TrodAll enc Tryd.prog W 0 (fun _ => true) true Tryd.f4.params.toList args.toList ds p := hA0
  rw [Tryd.params4] at hA hval
  obtain ⟨v0, vs0, d0, ds0, p0, q0, hargs, rfl, rfl, h0, r0⟩ := trodAll_cons hA
  obtain ⟨v1, vs1, d1, ds1, p1, q1, rfl, rfl, rfl, h1, r1⟩ := trodAll_cons r0
  obtain ⟨rfl, rfl, rfl⟩ := trodAll_nil r1
  obtain rfl : args = #[v0, v1] := by cases args; simp_all
  obtain ⟨rfl, rfl⟩ := trodVars_none hV
  have k0 := h0
  have lt0 : ∀ x ∈ p0, x.block < W.heap.size := by obtain ⟨m, hm⟩ := k0; exact DataW.trod_lt m _ _ _ hm
  obtain ⟨c0_0, c1_0, y0_0, y1_0, m0, rfl, _, _, t0_0, t1_0⟩ := open_agg2 Tryd.underlying23 (by kernel_rfl) (show Tryd.prog.cellsOf 23 = 2 by kernel_rfl) (hval 0 23 v0 rfl rfl) h0
  obtain ⟨an, e0_0, _, wan⟩ := DataW.trod_int Tryd.underlying2 t0_0
  simp only [List.cons.injEq, and_true] at e0_0
  subst e0_0
  obtain ⟨ad, e1_0, _, wad⟩ := DataW.trod_int Tryd.underlying2 t1_0
  simp only [List.cons.injEq, and_true] at e1_0
  subst e1_0
  have k1 := h1
  have lt1 : ∀ x ∈ p1, x.block < W.heap.size := by obtain ⟨m, hm⟩ := k1; exact DataW.trod_lt m _ _ _ hm
  obtain ⟨sa1, sl1, sc1, rfl⟩ := okWide_slice Tryd.underlying24 (hval 1 24 v1 rfl rfl)
  obtain ⟨fu1, hf1⟩ := h1
  obtain ⟨A, L, c, e1, hn, hc, hs, hb1⟩ := open_nums (cs := [.slice sa1 sl1 sc1]) hf1
  simp only [List.cons.injEq, and_true, Value.slice.injEq] at e1
  obtain ⟨rfl, rfl, rfl⟩ := e1
  clear hA0 hval0
  refine (walk an ad sa1 sc1 L W GLW hb1 hn hc hs).mono fun e W' ⟨he, bel⟩ => ?_
  subst he
  exact ⟨_, rfl, _, _, _, [], _, [], hW', trodAll_mk1 (shut_bool Tryd.underlying4 _), (trodAll_cons_mk (Below.trod laidOut (by kernel_rfl) (of_decide_eq_true (by kernel_rfl)) k0 bel lt0) (trodAll_cons_mk (Below.trod laidOut (by kernel_rfl) (of_decide_eq_true (by kernel_rfl)) k1 bel lt1) trodAll_mk0)), rfl, bel.frame _, fun h => by cases h⟩

theorem over : Rows.FracBackSaid :=
  OpenClaim.holds_of_cond 4 Tryd.f4 rfl rfl rfl rfl rfl rfl rfl ⟨rfl, rfl, rfl, rfl, rfl⟩ rfl rfl rfl rfl rfl (by kernel_rfl) Tryd.func4 (by kernel_rfl)
    (of_decide_eq_true (by kernel_rfl)) (by unfold Func.isWrapper; first | (rw [if_pos (by decide +kernel)]; kernel_rfl) | (rw [if_neg (by decide +kernel)]; exact ⟨rfl, rfl⟩))
    (fun os started H enc _ F0 => by rw [OpenClaim.pre_eq_preRow]; exact lifted os started H enc F0)

theorem proved : Rows.FracBackCardSaid :=
  Claim7.holds_tied_plain_at .later [] [.data, .data, .data, .sentinel, .sentinel] true (true, "43c78dc67c81c121e4f2f638ffa34a2371ed4a535b44984ce1144cd4d0a3dfce") true
    over (fun _ h => by cases h) (by kernel_rfl) (fun _ h => by cases h) fracBack_row_tie rfl ⟨rfl, rfl⟩ (by kernel_rfl) rfl
    (fun f fn hf hfn => by
      obtain rfl : f = 4 := Option.some.inj ((show Tryd.prog.funcNamed "fringe/fringelaw01.FracBack" = some 4 by kernel_rfl).symm.trans hf) |>.symm
      obtain rfl : fn = Tryd.f4 := (Option.some.inj (Tryd.func4.symm.trans hfn)).symm
      exact ⟨by kernel_rfl, fun j t ht => by
        rw [Tryd.params4] at ht
        have hj : j < 2 := by
          have := (Array.getElem?_eq_some_iff.1 ht).1
          simpa using this
        obtain rfl | rfl : j = 0 ∨ j = 1 := by omega
        · have h3 : t = 23 := by simpa using ht.symm
          subst h3
          exact (show Tryd.prog.wantsStandIn 23 = false by kernel_rfl)
        · have h3 : t = 24 := by simpa using ht.symm
          subst h3
          exact (show Tryd.prog.wantsStandIn 24 = false by kernel_rfl)⟩)
    (by kernel_rfl)
#print axioms proved
end Go.Proofs.YtpeoecgehdicmaaDoor.fracBack
