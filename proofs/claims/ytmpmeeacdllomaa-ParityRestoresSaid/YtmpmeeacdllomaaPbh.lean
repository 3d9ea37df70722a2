/- The walk of ParityStripes. -/
import Derived.Test.YtmpmeeacdllomaaPbf
import Derived.Test.YtmpmeeacdllomaaPbg
namespace Go.Proofs.Ytmpmeeacdllomaa
open Go.ChangeShapes Go.WideShapes Go.ChangeAt Go.RowKit Gf
set_option linter.unusedVariables false
attribute [local go_sem ↓] Go.wp_at_zero Go.wp_at_succ

theorem great_not {m : List (List Nat)} (h : greatB m = false) : m.length ≤ 20 ∧ ∀ l ∈ m, l.length ≤ 100 := by
  unfold greatB at h
  rw [Bool.or_eq_false_iff] at h
  refine ⟨by have := of_decide_eq_false h.2; omega, fun l hl => ?_⟩
  have := (List.any_eq_false.1 h.1) l hl
  unfold greatL at this
  simp at this
  omega
theorem KU.set {B g o : Nat} {w W : World} {cs : Array Value} (h : KU B w W) (hg : W.heap[g]? = some (.cells cs 5)) (hB : B ≤ g) (x : Value) : KU B w (W.setCell ⟨g, o, none⟩ x) :=
  ⟨h.bel.setCell hB x, fun g' cs' t fz h1 ht => by
    have h2 := h.oth g' cs' t fz h1 ht
    refine blk_set_other h2 (fun e => ?_) o x
    subst e
    rw [hg] at h2
    injection h2 with h2
    injection h2 with _ h3 _
    exact ht h3.symm⟩
set_option maxRecDepth 100000 in
set_option maxHeartbeats 8000000 in
theorem stripes_walk (A : Option Addr) (c : Nat) (d : List (List Nat)) (pm : Int) (D M : Int) (As : Option Addr) (cs : Nat) (m : List (List Nat)) (Ad : Option Addr) (cd : Nat) (ds : List Int) (w : World) (hn : d.length ≤ c) (hc : c ≤ 9223372036854775807) (hs : RMA 0 w A d) (hn2 : m.length ≤ cs) (hc2 : cs ≤ 9223372036854775807) (hs2 : RMA 0 w As m) (hn3 : ds.length ≤ cd) (hc3 : cd ≤ 9223372036854775807) (hs3 : RI 0 w Ad ds) :
    Calls Try.prog 6 #[.slice A d.length c, .int .i64 pm, Sv D M (.slice As m.length cs), .slice Ad ds.length cd] w fun e w' => e = .returned (.bool true) ∧ Below w.heap.size w w' := by
  have HS := Lib.hid hs
  have HS2 := Lib.hid hs2
  have HS3 := Lib.hid hs3
  clear hs hs2 hs3
  have GB := Lib.hid (fun W (h : RMA 0 W A d) => refGreatBlocks_calls A c 0 d W hn hc h)
  have GS := Lib.hid (fun W (h : RMA 0 W As m) => refGreat_calls D M As cs 0 m W hn2 hc2 h)
  have K0 : Hid (Below w.heap.size w (w.alloc (.cells #[.int .i64 D, .int .i64 M, .slice As m.length cs] 31))) := Lib.hid (Bal (Below.refl _ _) _)
  have g1 : greatB d = true ∨ greatB d = false := by cases greatB d <;> simp
  have g2 : greatB m = true ∨ greatB m = false := by cases greatB m <;> simp
  rcases g1 with g1 | g1
  · rw [g1] at GB
    go_enter Try.func6, Try.ntmps6
    go_wp2_with fail
    refine (GB.out _ (HS.out.next K0.out)).mono ?_
    rintro e w1 ⟨rfl, rfl⟩
    go_wp2_with fail
    go_ret
    exact ⟨rfl, K0.out⟩
  rw [g1] at GB
  rcases g2 with g2 | g2
  · rw [g2] at GS
    go_enter Try.func6, Try.ntmps6
    go_wp2_with fail
    refine (GB.out _ (HS.out.next K0.out)).mono ?_
    rintro e w1 ⟨rfl, rfl⟩
    go_wp2_with fail
    refine (GS.out _ (HS2.out.next K0.out)).mono ?_
    rintro e w1 ⟨rfl, hb1⟩
    go_wp2_with fail
    go_ret
    exact ⟨rfl, Bgo K0.out hb1⟩
  rw [g2] at GS
  have MG : Hid (m.length ≤ 20 ∧ ∀ l ∈ m, l.length ≤ 100) := Lib.hid (great_not g2)
  have hm20 : m.length ≤ 100 := by have := MG.out.1; omega
  by_cases h20 : 20 < ds.length
  · have h20' : decide ((20 : Int) < (ds.length : Int)) = true := decide_eq_true (by omega)
    go_enter Try.func6, Try.ntmps6
    go_wp2_with fail
    refine (GB.out _ (HS.out.next K0.out)).mono ?_
    rintro e w1 ⟨rfl, rfl⟩
    go_wp2_with fail
    refine (GS.out _ (HS2.out.next K0.out)).mono ?_
    rintro e w1 ⟨rfl, hb1⟩
    go_wp2_with fail
    go_ret
    exact ⟨rfl, Bgo K0.out hb1⟩
  have h20' : decide ((20 : Int) < (ds.length : Int)) = false := decide_eq_false (by omega)
  have TC := Lib.hid (fun W (h : RMA 0 W As m) => refTwin_calls D M As cs 0 m W hn2 hc2 hm20 h MG.out.2)
  have EC := Lib.hid (fun W (h : RMA 0 W A d) => encode_calls A c 0 d pm W hn hc h)
  have EC' := Lib.hid (fun W (h : RMA 0 W A d) => refEncode_calls A c 0 d pm W hn hc h)
  have LC := Lib.hid (fun W (h : RMA 0 W As m) (h' : RI 0 W Ad ds) => lose_calls D M As cs 0 m Ad cd 0 ds W hn2 hc2 h hn3 hc3 h')
  have LC' := Lib.hid (fun W (h : RMA 0 W As m) (h' : RI 0 W Ad ds) => refLose_calls D M As cs 0 m Ad cd 0 ds W hn2 hc2 h hn3 hc3 h')
  have UC := Lib.hid (fun W (h : RMA 0 W As m) => soundX_calls D M As cs 0 m W hn2 hc2 h)
  have UC' := Lib.hid (fun W (h : RMA 0 W As m) => refSoundX_calls D M As cs 0 m W hn2 hc2 h)
  have CC := Lib.hid (fun W (h : RMA 0 W As m) => check_calls D M As cs 0 m W hn2 hc2 h)
  have CC' := Lib.hid (fun W (h : RMA 0 W As m) => refCheck_calls D M As cs 0 m W hn2 hc2 h)
  generalize encS d pm = ea at *
  obtain ⟨e1, e2, e3⟩ := ea
  generalize encE d pm = ee at *
  generalize loseS D M m ds = la at *
  obtain ⟨l1, l2, l3⟩ := la
  generalize loseE D M m ds = le at *
  generalize sdB D M m = sb at *
  generalize chkE D M m = ce at *
  clear g1 g2 MG hm20 h20
  go_enter Try.func6, Try.ntmps6
  go_wp2_with fail
  refine (GB.out _ (HS.out.next K0.out)).mono ?_
  rintro e w1 ⟨rfl, rfl⟩
  go_wp2_with fail
  refine (GS.out _ (HS2.out.next K0.out)).mono ?_
  rintro e w1 ⟨rfl, hb1⟩
  have N1 : Hid (Below w.heap.size w w1) := Lib.hid (Bgo K0.out hb1)
  have V0 : Hid (w1.heap[w.heap.size]? = some (.cells #[.int .i64 D, .int .i64 M, .slice As m.length cs] 31)) := Lib.hid (blk_next hb1 (blk_new w _))
  clear hb1 K0 GB GS
  have R1 := Lib.hid (HS.out.next N1.out)
  have R2 := Lib.hid (HS2.out.next N1.out)
  have R3 := Lib.hid (HS3.out.next N1.out)
  clear HS HS2 HS3
  have s0 := blk_cell V0.out 0 _ rfl
  have s1 := blk_cell V0.out 1 _ rfl
  have s2 := blk_cell V0.out 2 _ rfl
  go_wp2_with fail
  refine (TC.out _ R2.out).mono ?_
  rintro e w2 ⟨vt, rfl, ⟨ut, ot⟩, hb⟩
  obtain ⟨At, ct, rfl, hAt1, hAt2, _⟩ := own_form ot.top
  have HB : Hid (Below w1.heap.size w1 (w2.alloc (.cells #[.int .i64 D, .int .i64 M, .slice At m.length ct] 31))) := Lib.hid (Bal hb _)
  have V0w := blk_next hb V0.out
  have s0 := blk_cell V0w 0 _ rfl
  have s1 := blk_cell V0w 1 _ rfl
  have s2 := blk_cell V0w 2 _ rfl
  have sl := blk_lt V0w
  clear V0w hb
  have XAt : Hid (OMx w1.heap.size (w2.alloc (.cells #[.int .i64 D, .int .i64 M, .slice At m.length ct] 31)) (.slice At m.length ct) ut m) := Lib.hid (ot.next (Bal (Below.refl _ _) _))
  clear ot
  replace V0 := Lib.hid (blk_next HB.out V0.out)
  replace R1 := Lib.hid (R1.out.next HB.out)
  replace R2 := Lib.hid (R2.out.next HB.out)
  replace R3 := Lib.hid (R3.out.next HB.out)
  have V1 : Hid ((w2.alloc (.cells #[.int .i64 D, .int .i64 M, .slice At m.length ct] 31)).heap[w2.heap.size]? = some (.cells #[.int .i64 D, .int .i64 M, .slice At m.length ct] 31)) := Lib.hid (blk_new w2 _)
  have N2 := Lib.hid (Bgo N1.out HB.out)
  clear HB N1
  go_wp2_with fail
  clear s0 s1 s2 sl
  generalize w2.alloc (.cells #[.int .i64 D, .int .i64 M, .slice At m.length ct] 31) = W2 at *
  generalize w2.heap.size = gt at *
  refine (EC.out _ R1.out).mono ?_
  rintro e w3 ⟨va, rfl, ⟨ua, oa⟩, hb⟩
  obtain ⟨Aa, ca, rfl, hAa1, hAa2, _⟩ := own_form oa.top
  have HB : Hid (Below W2.heap.size W2 (w3.alloc (.cells #[.int .i64 e1, .int .i64 e2, .slice Aa e3.length ca] 31))) := Lib.hid (Bal hb _)
  have V0w := blk_next hb V0.out
  have s0 := blk_cell V0w 0 _ rfl
  have s1 := blk_cell V0w 1 _ rfl
  have s2 := blk_cell V0w 2 _ rfl
  have sl := blk_lt V0w
  clear V0w hb
  have XAa : Hid (OMx W2.heap.size (w3.alloc (.cells #[.int .i64 e1, .int .i64 e2, .slice Aa e3.length ca] 31)) (.slice Aa e3.length ca) ua e3) := Lib.hid (oa.next (Bal (Below.refl _ _) _))
  clear oa
  replace V0 := Lib.hid (blk_next HB.out V0.out)
  replace V1 := Lib.hid (blk_next HB.out V1.out)
  replace R1 := Lib.hid (R1.out.next HB.out)
  replace R2 := Lib.hid (R2.out.next HB.out)
  replace R3 := Lib.hid (R3.out.next HB.out)
  replace XAt := Lib.hid (XAt.out.next HB.out)
  have V2 : Hid ((w3.alloc (.cells #[.int .i64 e1, .int .i64 e2, .slice Aa e3.length ca] 31)).heap[w3.heap.size]? = some (.cells #[.int .i64 e1, .int .i64 e2, .slice Aa e3.length ca] 31)) := Lib.hid (blk_new w3 _)
  have N3 := Lib.hid (Bgo N2.out HB.out)
  clear HB N2
  go_wp2_with fail
  clear s0 s1 s2 sl
  generalize w3.alloc (.cells #[.int .i64 e1, .int .i64 e2, .slice Aa e3.length ca] 31) = W3 at *
  generalize w3.heap.size = ga at *
  generalize W2.heap.size = z3 at *
  refine (EC'.out _ R1.out).mono ?_
  rintro e w4 ⟨vb, rfl, ⟨ub, ob⟩, hb⟩
  obtain ⟨Ab, cb, rfl, hAb1, hAb2, _⟩ := own_form ob.top
  have HB : Hid (Below W3.heap.size W3 (w4.alloc (.cells #[.int .i64 e1, .int .i64 e2, .slice Ab e3.length cb] 31))) := Lib.hid (Bal hb _)
  have V0w := blk_next hb V0.out
  have s0 := blk_cell V0w 0 _ rfl
  have s1 := blk_cell V0w 1 _ rfl
  have s2 := blk_cell V0w 2 _ rfl
  have sl := blk_lt V0w
  clear V0w hb
  have XAb : Hid (OMx W3.heap.size (w4.alloc (.cells #[.int .i64 e1, .int .i64 e2, .slice Ab e3.length cb] 31)) (.slice Ab e3.length cb) ub e3) := Lib.hid (ob.next (Bal (Below.refl _ _) _))
  clear ob
  replace V0 := Lib.hid (blk_next HB.out V0.out)
  replace V1 := Lib.hid (blk_next HB.out V1.out)
  replace V2 := Lib.hid (blk_next HB.out V2.out)
  replace R1 := Lib.hid (R1.out.next HB.out)
  replace R2 := Lib.hid (R2.out.next HB.out)
  replace R3 := Lib.hid (R3.out.next HB.out)
  replace XAt := Lib.hid (XAt.out.next HB.out)
  replace XAa := Lib.hid (XAa.out.next HB.out)
  have V3 : Hid ((w4.alloc (.cells #[.int .i64 e1, .int .i64 e2, .slice Ab e3.length cb] 31)).heap[w4.heap.size]? = some (.cells #[.int .i64 e1, .int .i64 e2, .slice Ab e3.length cb] 31)) := Lib.hid (blk_new w4 _)
  have N4 := Lib.hid (Bgo N3.out HB.out)
  clear HB N3
  go_wp2_with fail
  clear s0 s1 s2 sl
  generalize w4.alloc (.cells #[.int .i64 e1, .int .i64 e2, .slice Ab e3.length cb] 31) = W4 at *
  generalize w4.heap.size = gb at *
  generalize W3.heap.size = z4 at *
  have BEF : Hid (RMA 0 W4 As m ∧ RMA 0 W4 At m) := Lib.hid ⟨R2.out, XAt.out.rma.mono (Nat.zero_le _)⟩
  have F0 := V0
  have F1 := V1
  have N4' := N4
  refine (LC.out _ R2.out R3.out).mono ?_
  rintro e w5 ⟨vc, rfl, ⟨uc, oc⟩, hb⟩
  obtain ⟨Ac, cc, rfl, hAc1, hAc2, _⟩ := own_form oc.top
  have HB : Hid (Below W4.heap.size W4 (w5.alloc (.cells #[.int .i64 l1, .int .i64 l2, .slice Ac l3.length cc] 31))) := Lib.hid (Bal hb _)
  have V0w := blk_next hb V0.out
  have s0 := blk_cell V0w 0 _ rfl
  have s1 := blk_cell V0w 1 _ rfl
  have s2 := blk_cell V0w 2 _ rfl
  have sl := blk_lt V0w
  clear V0w hb
  have XAc : Hid (OMx W4.heap.size (w5.alloc (.cells #[.int .i64 l1, .int .i64 l2, .slice Ac l3.length cc] 31)) (.slice Ac l3.length cc) uc l3) := Lib.hid (oc.next (Bal (Below.refl _ _) _))
  clear oc
  replace V0 := Lib.hid (blk_next HB.out V0.out)
  replace V1 := Lib.hid (blk_next HB.out V1.out)
  replace V2 := Lib.hid (blk_next HB.out V2.out)
  replace V3 := Lib.hid (blk_next HB.out V3.out)
  replace R1 := Lib.hid (R1.out.next HB.out)
  replace R2 := Lib.hid (R2.out.next HB.out)
  replace R3 := Lib.hid (R3.out.next HB.out)
  replace XAt := Lib.hid (XAt.out.next HB.out)
  replace XAa := Lib.hid (XAa.out.next HB.out)
  replace XAb := Lib.hid (XAb.out.next HB.out)
  have V4 : Hid ((w5.alloc (.cells #[.int .i64 l1, .int .i64 l2, .slice Ac l3.length cc] 31)).heap[w5.heap.size]? = some (.cells #[.int .i64 l1, .int .i64 l2, .slice Ac l3.length cc] 31)) := Lib.hid (blk_new w5 _)
  have N5 := Lib.hid (Bgo N4.out HB.out)
  have BC := HB
  clear HB N4
  go_wp2_with fail
  clear s0 s1 s2 sl
  generalize w5.alloc (.cells #[.int .i64 l1, .int .i64 l2, .slice Ac l3.length cc] 31) = W5 at *
  generalize w5.heap.size = gc at *
  refine (LC'.out _ R2.out R3.out).mono ?_
  rintro e w6 ⟨vd, rfl, ⟨ud, od⟩, hb⟩
  obtain ⟨Av, cv, rfl, hAv1, hAv2, _⟩ := own_form od.top
  have HB : Hid (Below W5.heap.size W5 (w6.alloc (.cells #[.int .i64 l1, .int .i64 l2, .slice Av l3.length cv] 31))) := Lib.hid (Bal hb _)
  have V0w := blk_next hb V0.out
  have s0 := blk_cell V0w 0 _ rfl
  have s1 := blk_cell V0w 1 _ rfl
  have s2 := blk_cell V0w 2 _ rfl
  have sl := blk_lt V0w
  clear V0w hb
  have XAv : Hid (OMx W5.heap.size (w6.alloc (.cells #[.int .i64 l1, .int .i64 l2, .slice Av l3.length cv] 31)) (.slice Av l3.length cv) ud l3) := Lib.hid (od.next (Bal (Below.refl _ _) _))
  clear od
  replace V0 := Lib.hid (blk_next HB.out V0.out)
  replace V1 := Lib.hid (blk_next HB.out V1.out)
  replace V2 := Lib.hid (blk_next HB.out V2.out)
  replace V3 := Lib.hid (blk_next HB.out V3.out)
  replace V4 := Lib.hid (blk_next HB.out V4.out)
  replace R1 := Lib.hid (R1.out.next HB.out)
  replace R2 := Lib.hid (R2.out.next HB.out)
  replace R3 := Lib.hid (R3.out.next HB.out)
  replace XAt := Lib.hid (XAt.out.next HB.out)
  replace XAa := Lib.hid (XAa.out.next HB.out)
  replace XAb := Lib.hid (XAb.out.next HB.out)
  replace XAc := Lib.hid (XAc.out.next HB.out)
  have V5 : Hid ((w6.alloc (.cells #[.int .i64 l1, .int .i64 l2, .slice Av l3.length cv] 31)).heap[w6.heap.size]? = some (.cells #[.int .i64 l1, .int .i64 l2, .slice Av l3.length cv] 31)) := Lib.hid (blk_new w6 _)
  have N6 := Lib.hid (Bgo N5.out HB.out)
  replace BC := Lib.hid (BC.out.trans (HB.out.mono BC.out.size))
  clear HB N5
  go_wp2_with fail
  clear s0 s1 s2 sl
  generalize w6.alloc (.cells #[.int .i64 l1, .int .i64 l2, .slice Av l3.length cv] 31) = W6 at *
  generalize w6.heap.size = gd at *
  refine (UC.out _ R2.out).mono ?_
  rintro e w7 ⟨rfl, hb⟩
  replace V0 := Lib.hid (blk_next hb V0.out)
  replace V1 := Lib.hid (blk_next hb V1.out)
  replace V2 := Lib.hid (blk_next hb V2.out)
  replace V3 := Lib.hid (blk_next hb V3.out)
  replace V4 := Lib.hid (blk_next hb V4.out)
  replace V5 := Lib.hid (blk_next hb V5.out)
  replace R1 := Lib.hid (R1.out.next hb)
  replace R2 := Lib.hid (R2.out.next hb)
  replace R3 := Lib.hid (R3.out.next hb)
  replace XAt := Lib.hid (XAt.out.next hb)
  replace XAa := Lib.hid (XAa.out.next hb)
  replace XAb := Lib.hid (XAb.out.next hb)
  replace XAc := Lib.hid (XAc.out.next hb)
  replace XAv := Lib.hid (XAv.out.next hb)
  replace BC := Lib.hid (BC.out.trans (hb.mono BC.out.size))
  have N7 := Lib.hid (Bgo N6.out hb)
  clear hb N6
  have s0 := blk_cell V0.out 0 _ rfl
  have s1 := blk_cell V0.out 1 _ rfl
  have s2 := blk_cell V0.out 2 _ rfl
  have sl := blk_lt V0.out
  go_wp2_with fail
  clear s0 s1 s2 sl
  refine (UC'.out _ R2.out).mono ?_
  rintro e w8 ⟨rfl, hb⟩
  replace V0 := Lib.hid (blk_next hb V0.out)
  replace V1 := Lib.hid (blk_next hb V1.out)
  replace V2 := Lib.hid (blk_next hb V2.out)
  replace V3 := Lib.hid (blk_next hb V3.out)
  replace V4 := Lib.hid (blk_next hb V4.out)
  replace V5 := Lib.hid (blk_next hb V5.out)
  replace R1 := Lib.hid (R1.out.next hb)
  replace R2 := Lib.hid (R2.out.next hb)
  replace R3 := Lib.hid (R3.out.next hb)
  replace XAt := Lib.hid (XAt.out.next hb)
  replace XAa := Lib.hid (XAa.out.next hb)
  replace XAb := Lib.hid (XAb.out.next hb)
  replace XAc := Lib.hid (XAc.out.next hb)
  replace XAv := Lib.hid (XAv.out.next hb)
  replace BC := Lib.hid (BC.out.trans (hb.mono BC.out.size))
  have N8 := Lib.hid (Bgo N7.out hb)
  clear hb N7
  have s0 := blk_cell V0.out 0 _ rfl
  have s1 := blk_cell V0.out 1 _ rfl
  have s2 := blk_cell V0.out 2 _ rfl
  have sl := blk_lt V0.out
  clear s0 s1 s2 sl
  go_upto_region 10 with fail
  have KEEP : Hid (∀ X : World, Below w8.heap.size w8 X → (X.cell? ⟨w.heap.size, 0, none⟩ = some (.int .i64 D) ∧ X.cell? ⟨w.heap.size, 1, none⟩ = some (.int .i64 M) ∧ X.cell? ⟨w.heap.size, 2, none⟩ = some (.slice As m.length cs)) ∧ (X.cell? ⟨ga, 0, none⟩ = some (.int .i64 e1) ∧ X.cell? ⟨ga, 1, none⟩ = some (.int .i64 e2) ∧ X.cell? ⟨ga, 2, none⟩ = some (.slice Aa e3.length ca)) ∧ (X.cell? ⟨gb, 0, none⟩ = some (.int .i64 e1) ∧ X.cell? ⟨gb, 1, none⟩ = some (.int .i64 e2) ∧ X.cell? ⟨gb, 2, none⟩ = some (.slice Ab e3.length cb)) ∧ (X.cell? ⟨gc, 0, none⟩ = some (.int .i64 l1) ∧ X.cell? ⟨gc, 1, none⟩ = some (.int .i64 l2) ∧ X.cell? ⟨gc, 2, none⟩ = some (.slice Ac l3.length cc)) ∧ (X.cell? ⟨gd, 0, none⟩ = some (.int .i64 l1) ∧ X.cell? ⟨gd, 1, none⟩ = some (.int .i64 l2) ∧ X.cell? ⟨gd, 2, none⟩ = some (.slice Av l3.length cv))) := Lib.hid (fun X hX => ⟨box3 (blk_next hX V0.out), box3 (blk_next hX V2.out), box3 (blk_next hX V3.out), box3 (blk_next hX V4.out), box3 (blk_next hX V5.out)⟩)
  have RSX : Hid (∀ X : World, Below w8.heap.size w8 X → RMA 0 X As m ∧ RMA 0 X Aa e3 ∧ RMA 0 X Ab e3 ∧ RMA 0 X Ac l3 ∧ RMA 0 X Av l3) := Lib.hid (fun X hX => ⟨R2.out.next hX, (XAa.out.rma.mono (Nat.zero_le _)).next hX, (XAb.out.rma.mono (Nat.zero_le _)).next hX, (XAc.out.rma.mono (Nat.zero_le _)).next hX, (XAv.out.rma.mono (Nat.zero_le _)).next hX⟩)
  have SA : Hid (∀ W : World, RMA 0 W Aa e3 → RMA 0 W Ab e3 → Calls Try.prog 20 #[Sv e1 e2 (.slice Aa e3.length ca), Sv e1 e2 (.slice Ab e3.length cb)] W fun e w' => e = .returned (.bool true) ∧ Below W.heap.size W w') := Lib.hid (fun W h h' => by
    have := refSame_calls e1 e2 Aa ca 0 e3 e1 e2 Ab cb 0 e3 W hAa1 hAa2 h hAb1 hAb2 h'
    rw [decide_eq_true rfl] at this
    exact this)
  have SL : Hid (∀ W : World, RMA 0 W Ac l3 → RMA 0 W Av l3 → Calls Try.prog 20 #[Sv l1 l2 (.slice Ac l3.length cc), Sv l1 l2 (.slice Av l3.length cv)] W fun e w' => e = .returned (.bool true) ∧ Below W.heap.size W w') := Lib.hid (fun W h h' => by
    have := refSame_calls l1 l2 Ac cc 0 l3 l1 l2 Av cv 0 l3 W hAc1 hAc2 h hAv1 hAv2 h'
    rw [decide_eq_true rfl] at this
    exact this)
  obtain ⟨⟨k1, k2, k3⟩, ⟨k4, k5, k6⟩, ⟨k7, k8, k9⟩, ⟨k10, k11, k12⟩, ⟨k13, k14, k15⟩⟩ := KEEP.out w8 (Below.refl _ _)
  go_region_held3 (fun X => (X.cell? ⟨w.heap.size, 0, none⟩ = some (.int .i64 D) ∧ X.cell? ⟨w.heap.size, 1, none⟩ = some (.int .i64 M) ∧ X.cell? ⟨w.heap.size, 2, none⟩ = some (.slice As m.length cs)) ∧ (X.cell? ⟨ga, 0, none⟩ = some (.int .i64 e1) ∧ X.cell? ⟨ga, 1, none⟩ = some (.int .i64 e2) ∧ X.cell? ⟨ga, 2, none⟩ = some (.slice Aa e3.length ca)) ∧ (X.cell? ⟨gb, 0, none⟩ = some (.int .i64 e1) ∧ X.cell? ⟨gb, 1, none⟩ = some (.int .i64 e2) ∧ X.cell? ⟨gb, 2, none⟩ = some (.slice Ab e3.length cb)) ∧ (X.cell? ⟨gc, 0, none⟩ = some (.int .i64 l1) ∧ X.cell? ⟨gc, 1, none⟩ = some (.int .i64 l2) ∧ X.cell? ⟨gc, 2, none⟩ = some (.slice Ac l3.length cc)) ∧ (X.cell? ⟨gd, 0, none⟩ = some (.int .i64 l1) ∧ X.cell? ⟨gd, 1, none⟩ = some (.int .i64 l2) ∧ X.cell? ⟨gd, 2, none⟩ = some (.slice Av l3.length cv)))
    (first | (with_reducible exact KEEP.out _ BD.out) | (with_reducible exact KEEP.out _ BD.out.drew) | (with_reducible exact KEEP.out _ BS.out) | (with_reducible exact KEEP.out _ BS.out.drew) | (with_reducible exact KEEP.out _ BR.out) | (with_reducible exact KEEP.out _ BR.out.drew) | (with_reducible exact KEEP.out _ BK.out) | (with_reducible exact KEEP.out _ BK.out.drew) | (with_reducible exact KEEP.out _ (Below.refl _ _)) | (with_reducible exact KEEP.out _ (Below.refl _ _).drew))
    (first
      | (go_at_call 30; refine (CC.out _ ?_).mono ?_; (first | (with_reducible exact (RSX.out _ (Below.refl _ _)).1) | (with_reducible exact (RSX.out _ (Below.refl _ _).drew).1)); rintro e wk ⟨rfl, bx⟩; have BK : Hid (Below w8.heap.size w8 wk) := Lib.hid (by first | (with_reducible exact bx) | (with_reducible exact undrewB bx)); clear bx)
      | (go_at_call 31; refine (CC'.out _ ?_).mono ?_; (first | (with_reducible exact (RSX.out _ BK.out).1) | (with_reducible exact (RSX.out _ BK.out.drew).1)); rintro e wr ⟨rfl, bx⟩; have BR : Hid (Below w8.heap.size w8 wr) := Lib.hid (by first | (with_reducible exact Bgo BK.out bx) | (with_reducible exact Bgo BK.out (undrewB bx))); clear bx)
      | (have KX := BS; clear KX; go_at_call 20; refine (SL.out _ ?_ ?_).mono ?_; (first | (with_reducible exact (RSX.out _ BS.out).2.2.2.1) | (with_reducible exact (RSX.out _ BS.out.drew).2.2.2.1)); (first | (with_reducible exact (RSX.out _ BS.out).2.2.2.2) | (with_reducible exact (RSX.out _ BS.out.drew).2.2.2.2)); rintro e wd ⟨rfl, bx⟩; have BD : Hid (Below w8.heap.size w8 wd) := Lib.hid (by first | (with_reducible exact Bgo BS.out bx) | (with_reducible exact Bgo BS.out (undrewB bx))); clear bx)
      | (go_at_call 20; refine (SA.out _ ?_ ?_).mono ?_; (first | (with_reducible exact (RSX.out _ BR.out).2.1) | (with_reducible exact (RSX.out _ BR.out.drew).2.1)); (first | (with_reducible exact (RSX.out _ BR.out).2.2.1) | (with_reducible exact (RSX.out _ BR.out.drew).2.2.1)); rintro e wq ⟨rfl, bx⟩; have BS : Hid (Below w8.heap.size w8 wq) := Lib.hid (by first | (with_reducible exact Bgo BR.out bx) | (with_reducible exact Bgo BR.out (undrewB bx))); clear bx))
  have XT : Hid (wd.ownsRow W4.heap.size 57 1 (.slice Ac l3.length cc) l3.length uc) := Lib.hid (XAc.out.next BD.out).top
  have XU : Hid (RU W4.heap.size wd uc) := Lib.hid (XAc.out.next BD.out).ru
  have XV := Lib.hid (blk_next BD.out V4.out)
  have XB : Hid (Below W4.heap.size W4 wd) := Lib.hid (BC.out.trans (BD.out.mono BC.out.size))
  have UL : uc.length = l3.length := XAc.out.len
  clear KEEP RSX SA SL BK BR BS BD k1 k2 k3 k4 k5 k6 k7 k8 k9 k10 k11 k12 k13 k14 k15 V0 V1 V2 V3 V4 V5 R1 R2 R3 XAt XAa XAb XAc XAv BC N8 CC CC' UC UC' LC LC' EC EC' TC
  go_wp2_with fail
  have HDR : Hid (∀ X : World, KU W4.heap.size wd X → X.cell? ⟨gc, 2, none⟩ = some (.slice Ac l3.length cc) ∧ ∀ (k : Nat) (u : Value), uc[k]? = some u → ∃ b off, Ac = some ⟨b, off, none⟩ ∧ b < X.heap.size ∧ X.cell? ⟨b, off + k, none⟩ = some u) := Lib.hid (fun X hX => by
    refine ⟨blk_cell (hX.oth _ _ _ _ XV.out ne_st_u8) 2 _ rfl, fun k u hu => ?_⟩
    have ht : X.ownsRow W4.heap.size 57 1 (.slice Ac l3.length cc) l3.length uc := own_same XT.out (fun g cs _ hh => (hX.oth g cs _ _ hh ne_sl_u8).trans hh.symm)
    obtain ⟨b, off, e, _, h2, h3⟩ := Hd.of_own ht k u hu
    exact ⟨b, off, e, h2, h3⟩)
  have SM : Hid (∀ W : World, RMA 0 W As m → RMA 0 W At m → Calls Try.prog 20 #[Sv D M (.slice As m.length cs), Sv D M (.slice At m.length ct)] W fun e w' => e = .returned (.bool true) ∧ Below W.heap.size W w') := Lib.hid (fun W h h' => by
    have := refSame_calls D M As cs 0 m D M At ct 0 m W hn2 hc2 h hAt1 hAt2 h'
    rw [decide_eq_true rfl] at this
    exact this)
  clear XT XV
  go_loopw [22] (fun i wr => ∃ k : Nat, k ≤ l3.length ∧ i = .int .i64 k ∧ Hid (KU W4.heap.size wd wr) ∧ Hid (RU W4.heap.size wr uc)) (fun i _ => l3.length - (intOf i).toNat)
  case atStart => exact ⟨0, by omega, rfl, Lib.hid (KU.refl _ _), XU⟩
  case round =>
    obtain ⟨k, hk, rfl, K, U⟩ := hrel
    obtain ⟨v2, hd⟩ := HDR.out _ K.out
    by_cases hlt : k < l3.length
    · obtain ⟨u, hu⟩ := get_some (show k < uc.length by omega)
      obtain ⟨b, off, rfl, hbl, hcell⟩ := hd k u hu
      obtain ⟨Ak, nk, ck, rfl, hn5, hc5, _⟩ := U.out k _ hu
      have HU := Lib.hid hu
      clear hd hu
      have k1 : (0 : Int) ≤ (k : Int) := by omega
      have k2 : (k : Int) < (l3.length : Int) := by omega
      go_wp2_with fail
      obtain ⟨wo, rfl⟩ : ∃ wo : World, wo = wr := ⟨_, rfl⟩
      clear v2 hcell hbl
      go_loopw [23, 115, 116, 117, 118, 119, 120, 121, 122, 123, 124, 125, 126, 127, 128, 129, 130, 131, 132, 133, 134] (fun i _ _ _ _ _ _ _ _ _ _ _ _ _ _ _ _ _ _ _ _ W => ∃ j : Nat, j ≤ nk ∧ i = .int .i64 j ∧ Hid (KU W4.heap.size wd W) ∧ Hid (RU W4.heap.size W uc)) (fun i _ _ _ _ _ _ _ _ _ _ _ _ _ _ _ _ _ _ _ _ _ => nk - (intOf i).toNat)
      case atStart => exact ⟨0, by omega, rfl, K, U⟩
      case round =>
        obtain ⟨j, hj, rfl, K, U⟩ := hrel
        obtain ⟨v2, hd⟩ := HDR.out _ K.out
        obtain ⟨b', off', e, hbl, hcell⟩ := hd k _ HU.out
        simp only [Option.some.injEq, Addr.mk.injEq, and_true] at e
        obtain ⟨rfl, rfl⟩ := e
        clear hd
        by_cases hj' : j < nk
        · obtain ⟨A', n', c', e', _, _, h7⟩ := U.out k _ HU.out
          simp only [Value.slice.injEq] at e'
          obtain ⟨rfl, rfl, rfl⟩ := e'
          obtain ⟨g, cs', x, rfl, hg1, hg2, hg3, hx⟩ := h7 j hj'
          have c1 := blk_cell hg2 j _ hg3
          have c2 := blk_frozen hg2 j
          have G2 := Lib.hid hg2
          have X2 : Hid (bits BinOp.xor IntKind.u8 (x : Int) 255 = ((x ^^^ 255 : Nat) : Int)) := Lib.hid (u8_xor_nat x 255 hx (by omega))
          have k3 : (0 : Int) ≤ (j : Int) := by omega
          have k4 : (j : Int) < (nk : Int) := by omega
          clear h7 hg2 hg3
          go_wp2_with fail
          go_roundw
          case rel =>
            rw [X2.out]
            exact ⟨j + 1, by omega, by go_num, Lib.hid (K.out.set G2.out hg1 _), Lib.hid (U.out.set G2.out (xor_lt hx (by omega)))⟩
          case measure => simp [intOf]; omega
        · obtain rfl : j = nk := by omega
          go_wp2_with fail
          go_roundw
          case rel => exact ⟨k + 1, by omega, by go_num, K, U⟩
          case measure => simp [intOf]; omega
    · obtain rfl : k = l3.length := by omega
      clear hd
      have XW : Hid (Below W4.heap.size W4 wr) := Lib.hid (XB.out.trans K.out.bel)
      have f0 := blk_next XW.out F0.out
      have f1 := blk_next XW.out F1.out
      have s0 := blk_cell f0 0 _ rfl
      have s1 := blk_cell f0 1 _ rfl
      have s2 := blk_cell f0 2 _ rfl
      have t0 := blk_cell f1 0 _ rfl
      have t1 := blk_cell f1 1 _ rfl
      have t2 := blk_cell f1 2 _ rfl
      clear f0 f1
      go_wp2_with fail
      refine (SM.out _ (BEF.out.1.next XW.out) (BEF.out.2.next XW.out)).mono ?_
      rintro e w9 ⟨rfl, hb⟩
      go_wp2_with fail
      go_ret
      exact ⟨rfl, Bgo (Bgo N4'.out XW.out) hb⟩
end Go.Proofs.Ytmpmeeacdllomaa
