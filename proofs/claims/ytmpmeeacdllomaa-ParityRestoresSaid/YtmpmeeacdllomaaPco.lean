/- The walk of ParityRestores. -/
import Derived.Test.YtmpmeeacdllomaaPcm
import Derived.Test.YtmpmeeacdllomaaPbh
namespace Go.Proofs.Ytmpmeeacdllomaa
open Go.ChangeShapes Go.WideShapes Go.ChangeAt Go.RowKit Gf
set_option linter.unusedVariables false
attribute [local go_sem ↓] Go.wp_at_zero Go.wp_at_succ

set_option maxRecDepth 100000 in
set_option maxHeartbeats 8000000 in
theorem restores_walk (D M : Int) (As : Option Addr) (cs : Nat) (m : List (List Nat)) (w : World) (hn : m.length ≤ cs) (hc : cs ≤ 9223372036854775807) (hs : RMA 0 w As m) :
    Calls Try.prog 4 #[Sv D M (.slice As m.length cs)] w fun e w' => e = .returned (.bool true) ∧ Below w.heap.size w w' := by
  have HS := Lib.hid (hs.next (Bal (Below.refl _ _) (.cells #[.int .i64 D, .int .i64 M, .slice As m.length cs] 31)))
  clear hs
  have GS := Lib.hid (fun W (h : RMA 0 W As m) => refGreat_calls D M As cs 0 m W hn hc h)
  have RC := Lib.hid (fun W (h : RMA 0 W As m) => restore_calls D M As cs 0 m W hn hc h)
  have RC' := Lib.hid (fun W (h : RMA 0 W As m) => refRestore_calls D M As cs 0 m W hn hc h)
  have FC := Lib.hid (fun W (h : RMA 0 W As m) => find_calls D M As cs 0 m W hn hc h)
  have FC' := Lib.hid (fun W (h : RMA 0 W As m) => refFind_calls D M As cs 0 m W hn hc h)
  have K0 : Hid (Below w.heap.size w (w.alloc (.cells #[.int .i64 D, .int .i64 M, .slice As m.length cs] 31))) := Lib.hid (Bal (Below.refl _ _) _)
  have Vs : Hid ((w.alloc (.cells #[.int .i64 D, .int .i64 M, .slice As m.length cs] 31)).heap[w.heap.size]? = some (.cells #[.int .i64 D, .int .i64 M, .slice As m.length cs] 31)) := Lib.hid (blk_new w _)
  generalize resE D M m = er at *
  generalize resS D M m = rs at *
  obtain ⟨r1, r2, r3⟩ := rs
  generalize fndV D M m = fv at *
  obtain ⟨f1, f2⟩ := fv
  have SM : Hid (∀ (W : World) (A : Option Addr) (c : Nat) (A' : Option Addr) (c' : Nat), r3.length ≤ c → c ≤ 9223372036854775807 → RMA 0 W A r3 → r3.length ≤ c' → c' ≤ 9223372036854775807 → RMA 0 W A' r3 → Calls Try.prog 20 #[Sv r1 r2 (.slice A r3.length c), Sv r1 r2 (.slice A' r3.length c')] W fun e w' => e = .returned (.bool true) ∧ Below W.heap.size W w') := Lib.hid (fun W A c A' c' h1 h2 h h1' h2' h' => by
    have := refSame_calls r1 r2 A c 0 r3 r1 r2 A' c' 0 r3 W h1 h2 h h1' h2' h'
    rw [decide_eq_true rfl] at this
    exact this)
  have g1 : greatB m = true ∨ greatB m = false := by cases greatB m <;> simp
  go_enter Try.func4, Try.ntmps4
  go_wp2_with fail
  rcases g1 with g1 | g1
  · rw [g1] at GS
    refine (GS.out _ HS.out).mono ?_
    rintro e w1 ⟨rfl, hb⟩
    replace Vs := Lib.hid (blk_next hb Vs.out)
    replace HS := Lib.hid (HS.out.next hb)
    replace K0 := Lib.hid (Bgo K0.out hb)
    clear hb
    go_wp2_with fail
    go_ret
    exact ⟨rfl, K0.out⟩
  · rw [g1] at GS
    refine (GS.out _ HS.out).mono ?_
    rintro e w1 ⟨rfl, hb⟩
    replace Vs := Lib.hid (blk_next hb Vs.out)
    replace HS := Lib.hid (HS.out.next hb)
    replace K0 := Lib.hid (Bgo K0.out hb)
    clear hb
    have slVs := blk_lt Vs.out
    have sVs0 := blk_cell Vs.out 0 _ rfl
    have sVs1 := blk_cell Vs.out 1 _ rfl
    have sVs2 := blk_cell Vs.out 2 _ rfl
    go_wp2_with fail
    refine (RC.out _ HS.out).mono ?_
    rintro e w2 ⟨v_, rfl, ⟨ua, ow_⟩, hb⟩
    obtain ⟨Aa, ca, rfl, ha1, ha2, _⟩ := own_form (show w2.ownsRow w1.heap.size 57 1 v_ (r3).length ua from ow_.top)
    clear slVs sVs0 sVs1 sVs2
    have HB : Hid (Below w1.heap.size w1 (w2.alloc (.cells #[.int .i64 r1, .int .i64 r2, .slice Aa (r3).length ca] 31))) := Lib.hid (Bal hb _)
    have yVs := blk_next hb Vs.out
    have slVs := blk_lt yVs
    have sVs0 := blk_cell yVs 0 _ rfl
    have sVs1 := blk_cell yVs 1 _ rfl
    have sVs2 := blk_cell yVs 2 _ rfl
    clear yVs
    clear hb
    have Xa : Hid (OMx w1.heap.size (w2.alloc (.cells #[.int .i64 r1, .int .i64 r2, .slice Aa (r3).length ca] 31)) (.slice Aa (r3).length ca) ua (r3)) := Lib.hid (ow_.next (Bal (Below.refl _ _) _))
    clear ow_
    replace Vs := Lib.hid (blk_next HB.out Vs.out)
    replace HS := Lib.hid (HS.out.next HB.out)
    replace K0 := Lib.hid (Bgo K0.out HB.out)
    have Va : Hid ((w2.alloc (.cells #[.int .i64 r1, .int .i64 r2, .slice Aa (r3).length ca] 31)).heap[w2.heap.size]? = some (.cells #[.int .i64 r1, .int .i64 r2, .slice Aa (r3).length ca] 31)) := Lib.hid (blk_new w2 _)
    clear HB
    go_wp2_with fail
    clear slVs sVs0 sVs1 sVs2
    generalize w2.alloc (.cells #[.int .i64 r1, .int .i64 r2, .slice Aa (r3).length ca] 31) = W2 at *
    generalize w2.heap.size = ga at *
    have Ra := Lib.hid (Xa.out.rma.mono (B' := 0) (Nat.zero_le _))
    refine (RC'.out _ HS.out).mono ?_
    rintro e w3 ⟨v_, rfl, ⟨ub, ow_⟩, hb⟩
    obtain ⟨Ab, cb, rfl, hb1, hb2, _⟩ := own_form (show w3.ownsRow W2.heap.size 57 1 v_ (r3).length ub from ow_.top)
    have HB : Hid (Below W2.heap.size W2 (w3.alloc (.cells #[.int .i64 r1, .int .i64 r2, .slice Ab (r3).length cb] 31))) := Lib.hid (Bal hb _)
    have yVs := blk_next hb Vs.out
    have slVs := blk_lt yVs
    have sVs0 := blk_cell yVs 0 _ rfl
    have sVs1 := blk_cell yVs 1 _ rfl
    have sVs2 := blk_cell yVs 2 _ rfl
    clear yVs
    clear hb
    have Xb : Hid (OMx W2.heap.size (w3.alloc (.cells #[.int .i64 r1, .int .i64 r2, .slice Ab (r3).length cb] 31)) (.slice Ab (r3).length cb) ub (r3)) := Lib.hid (ow_.next (Bal (Below.refl _ _) _))
    clear ow_
    replace Vs := Lib.hid (blk_next HB.out Vs.out)
    replace Va := Lib.hid (blk_next HB.out Va.out)
    replace HS := Lib.hid (HS.out.next HB.out)
    replace Xa := Lib.hid (Xa.out.next HB.out)
    replace Ra := Lib.hid (Ra.out.next HB.out)
    replace K0 := Lib.hid (Bgo K0.out HB.out)
    have Vb : Hid ((w3.alloc (.cells #[.int .i64 r1, .int .i64 r2, .slice Ab (r3).length cb] 31)).heap[w3.heap.size]? = some (.cells #[.int .i64 r1, .int .i64 r2, .slice Ab (r3).length cb] 31)) := Lib.hid (blk_new w3 _)
    clear HB
    go_wp2_with fail
    clear slVs sVs0 sVs1 sVs2
    generalize w3.alloc (.cells #[.int .i64 r1, .int .i64 r2, .slice Ab (r3).length cb] 31) = W3 at *
    generalize w3.heap.size = gb at *
    have Rb := Lib.hid (Xb.out.rma.mono (B' := 0) (Nat.zero_le _))
    refine (FC.out _ HS.out).mono ?_
    rintro e w4 ⟨rfl, hb⟩
    replace Vs := Lib.hid (blk_next hb Vs.out)
    replace Va := Lib.hid (blk_next hb Va.out)
    replace Vb := Lib.hid (blk_next hb Vb.out)
    replace HS := Lib.hid (HS.out.next hb)
    replace Xa := Lib.hid (Xa.out.next hb)
    replace Ra := Lib.hid (Ra.out.next hb)
    replace Xb := Lib.hid (Xb.out.next hb)
    replace Rb := Lib.hid (Rb.out.next hb)
    replace K0 := Lib.hid (Bgo K0.out hb)
    clear hb
    have slVs := blk_lt Vs.out
    have sVs0 := blk_cell Vs.out 0 _ rfl
    have sVs1 := blk_cell Vs.out 1 _ rfl
    have sVs2 := blk_cell Vs.out 2 _ rfl
    go_wp2_with fail
    refine (FC'.out _ HS.out).mono ?_
    rintro e w5 ⟨rfl, hb⟩
    clear slVs sVs0 sVs1 sVs2
    replace Vs := Lib.hid (blk_next hb Vs.out)
    replace Va := Lib.hid (blk_next hb Va.out)
    replace Vb := Lib.hid (blk_next hb Vb.out)
    replace HS := Lib.hid (HS.out.next hb)
    replace Xa := Lib.hid (Xa.out.next hb)
    replace Ra := Lib.hid (Ra.out.next hb)
    replace Xb := Lib.hid (Xb.out.next hb)
    replace Rb := Lib.hid (Rb.out.next hb)
    replace K0 := Lib.hid (Bgo K0.out hb)
    clear hb
    have slVa := blk_lt Va.out
    have sVa0 := blk_cell Va.out 0 _ rfl
    have sVa1 := blk_cell Va.out 1 _ rfl
    have sVa2 := blk_cell Va.out 2 _ rfl
    have slVb := blk_lt Vb.out
    have sVb0 := blk_cell Vb.out 0 _ rfl
    have sVb1 := blk_cell Vb.out 1 _ rfl
    have sVb2 := blk_cell Vb.out 2 _ rfl
    go_wp2_with fail
    refine (SM.out _ _ _ _ _ ha1 ha2 Ra.out hb1 hb2 Rb.out).mono ?_
    rintro e w6 ⟨rfl, hb⟩
    clear slVa sVa0 sVa1 sVa2 slVb sVb0 sVb1 sVb2
    replace Vs := Lib.hid (blk_next hb Vs.out)
    replace Va := Lib.hid (blk_next hb Va.out)
    replace Vb := Lib.hid (blk_next hb Vb.out)
    replace HS := Lib.hid (HS.out.next hb)
    replace Xa := Lib.hid (Xa.out.next hb)
    replace Ra := Lib.hid (Ra.out.next hb)
    replace Xb := Lib.hid (Xb.out.next hb)
    replace Rb := Lib.hid (Rb.out.next hb)
    replace K0 := Lib.hid (Bgo K0.out hb)
    clear hb
    go_wp2_with fail
    go_ret
    exact ⟨by simp, K0.out⟩
end Go.Proofs.Ytmpmeeacdllomaa
