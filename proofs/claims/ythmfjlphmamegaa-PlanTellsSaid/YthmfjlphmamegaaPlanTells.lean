/- For every input the law PlanTells returns true and leaves its arguments as they were. -/
import Derived.Test.YthmfjlphmamegaaRows
import Derived.Test.YthmfjlphmamegaaPlb
import Derived.WalkKit
import Derived.ProofKit
import Derived.OpenShut
import Derived.ShutString
import Derived.ChangeOld
import Derived.Below
import Derived.Lib.SmallJoins
namespace Go.Proofs.Ythmfjlphmamegaa.planTells
open Go.ChangeShapes Go.WideShapes Go.ChangeAt Go.RowKit Go.Joins
open Go.ChangeMaps (open_string shut_string)
set_option linter.unusedVariables false

theorem own : ownKnob Try.prog.godebug = none := by kernel_rfl
theorem laidOut : laidOutB Try.prog = true := by kernel_rfl
theorem bres_of_rd {w : World} {a : Option Addr} {L : List Bre} (h : Rd w 3 a L.length (bre L)) : BresIn w a L := fun i hi => by
  obtain ⟨b, off, e, hl, hc⟩ := Rd.at_ (n := 0) (f := br3) h br3_len hi
  exact ⟨b, off, e, hl, hc 0 _ rfl, hc 1 _ rfl, hc 2 _ rfl⟩
attribute [local go_sem ↓] Go.wp_at_zero Go.wp_at_succ
set_option maxHeartbeats 8000000 in
set_option maxRecDepth 100000 in
theorem walk (a : Option Addr) (cap : Nat) (l : List Slt) (a' : Option Addr) (cap' : Nat) (rs : List Rul) (w : World) (hn : l.length ≤ cap) (hcap : cap ≤ 9223372036854775807) (hs : SlotsIn w a l)
    (hn' : rs.length ≤ cap') (hcap' : cap' ≤ 9223372036854775807) (hr : RulesIn w a' rs) :
    Calls Try.prog 3 #[Pv a l.length cap a' rs.length cap'] w fun e w' => e = .returned (.bool true) ∧ Below w.heap.size w w' := by
  have HS := Lib.hid hs
  have HR := Lib.hid hr
  clear hs hr
  have K0 := Lib.hid (fun (W : World) (hW : Below w.heap.size w W) => great_calls a cap l a' cap' rs W hn hcap (HS.out.next hW) hn' hcap' (HR.out.next hW))
  have K1 := Lib.hid (fun (W : World) (hW : Below w.heap.size w W) => breachesX_calls a cap l a' cap' rs W hn hcap (HS.out.next hW) hn' hcap' (HR.out.next hW))
  have K2 := Lib.hid (fun (W : World) (hW : Below w.heap.size w W) => refBreachesX_calls a cap l a' cap' rs W hn hcap (HS.out.next hW) hn' hcap' (HR.out.next hW))
  have K3 := Lib.hid (fun (W : World) (hW : Below w.heap.size w W) => obeysX_calls a cap l a' cap' rs W hn hcap (HS.out.next hW) hn' hcap' (HR.out.next hW))
  have K4 := Lib.hid (fun (W : World) (hW : Below w.heap.size w W) => refObeysX_calls a cap l a' cap' rs W hn hcap (HS.out.next hW) hn' hcap' (HR.out.next hW))
  have K5 := Lib.hid (fun (W : World) (hW : Below w.heap.size w W) => excused_calls a cap l a' cap' rs W hn hcap (HS.out.next hW) hn' hcap' (HR.out.next hW))
  have K6 := Lib.hid (fun (W : World) (hW : Below w.heap.size w W) => refExcused_calls a cap l a' cap' rs W hn hcap (HS.out.next hW) hn' hcap' (HR.out.next hW))
  have K7 := Lib.hid (fun (W : World) (hW : Below w.heap.size w W) => check_calls a cap l a' cap' rs W hn hcap (HS.out.next hW) hn' hcap' (HR.out.next hW))
  have K8 := Lib.hid (fun (W : World) (hW : Below w.heap.size w W) => refCheck_calls a cap l a' cap' rs W hn hcap (HS.out.next hW) hn' hcap' (HR.out.next hW))
  generalize checkE l rs = ce at *
  generalize obL l rs = ob at *
  generalize brL l rs = L at *
  generalize exL l rs = E at *
  go_enter Try.func3, Try.ntmps3
  go_wp2_with fail
  refine (K0.out _ (Bal (Below.refl _ _) _)).mono ?_
  rintro e w0 ⟨g, rfl, hg, hb⟩
  have P0 : Hid (w0.heap[w.heap.size]? = some (.cells #[.slice a l.length cap, .slice a' rs.length cap'] 25)) := Lib.hid (blk_next hb (blk_new w _))
  have N0 : Hid (Below w.heap.size w w0) := Lib.hid (Bgo (Bal (Below.refl _ _) _) hb)
  clear hb
  cases g
  case true =>
    go_wp2_with fail
    go_ret
    exact ⟨rfl, N0.out⟩
  have x0 : w0.cell? ⟨w.heap.size, 0, none⟩ = some (.slice a l.length cap) := blk_cell P0.out 0 _ rfl
  have x1 : w0.cell? ⟨w.heap.size, 1, none⟩ = some (.slice a' rs.length cap') := blk_cell P0.out 1 _ rfl
  go_wp2_with fail
  clear x0 x1
  refine (K1.out _ N0.out).mono ?_
  rintro e w1 ⟨v, rfl, ho, hb⟩
  obtain ⟨A1, c1, rfl, g1, f1, rd⟩ := Rd.of_own ho
  have R1 := Lib.hid rd
  clear ho rd
  have P1 : Hid (w1.heap[w.heap.size]? = some (.cells #[.slice a l.length cap, .slice a' rs.length cap'] 25)) := Lib.hid (blk_next hb P0.out)
  have N1 : Hid (Below w.heap.size w w1) := Lib.hid (Bgo N0.out hb)
  clear hb P0 N0
  have x0 : w1.cell? ⟨w.heap.size, 0, none⟩ = some (.slice a l.length cap) := blk_cell P1.out 0 _ rfl
  have x1 : w1.cell? ⟨w.heap.size, 1, none⟩ = some (.slice a' rs.length cap') := blk_cell P1.out 1 _ rfl
  go_wp2_with fail
  clear x0 x1
  refine (K2.out _ N1.out).mono ?_
  rintro e w2 ⟨v, rfl, ho, hb⟩
  obtain ⟨A2, c2, rfl, g2, f2, rd⟩ := Rd.of_own ho
  have R1x := Lib.hid (R1.out.next hb)
  clear R1
  have R1 := R1x
  clear R1x
  have R2 := Lib.hid rd
  clear ho rd
  have P2 : Hid (w2.heap[w.heap.size]? = some (.cells #[.slice a l.length cap, .slice a' rs.length cap'] 25)) := Lib.hid (blk_next hb P1.out)
  have N2 : Hid (Below w.heap.size w w2) := Lib.hid (Bgo N1.out hb)
  clear hb P1 N1
  have x0 : w2.cell? ⟨w.heap.size, 0, none⟩ = some (.slice a l.length cap) := blk_cell P2.out 0 _ rfl
  have x1 : w2.cell? ⟨w.heap.size, 1, none⟩ = some (.slice a' rs.length cap') := blk_cell P2.out 1 _ rfl
  go_wp2_with fail
  clear x0 x1
  refine (K3.out _ N2.out).mono ?_
  rintro e w3 ⟨rfl, hb⟩
  have R1x := Lib.hid (R1.out.next hb)
  clear R1
  have R1 := R1x
  clear R1x
  have R2x := Lib.hid (R2.out.next hb)
  clear R2
  have R2 := R2x
  clear R2x
  have P3 : Hid (w3.heap[w.heap.size]? = some (.cells #[.slice a l.length cap, .slice a' rs.length cap'] 25)) := Lib.hid (blk_next hb P2.out)
  have N3 : Hid (Below w.heap.size w w3) := Lib.hid (Bgo N2.out hb)
  clear hb P2 N2
  have x0 : w3.cell? ⟨w.heap.size, 0, none⟩ = some (.slice a l.length cap) := blk_cell P3.out 0 _ rfl
  have x1 : w3.cell? ⟨w.heap.size, 1, none⟩ = some (.slice a' rs.length cap') := blk_cell P3.out 1 _ rfl
  go_wp2_with fail
  clear x0 x1
  refine (K4.out _ N3.out).mono ?_
  rintro e w4 ⟨rfl, hb⟩
  have R1x := Lib.hid (R1.out.next hb)
  clear R1
  have R1 := R1x
  clear R1x
  have R2x := Lib.hid (R2.out.next hb)
  clear R2
  have R2 := R2x
  clear R2x
  have P4 : Hid (w4.heap[w.heap.size]? = some (.cells #[.slice a l.length cap, .slice a' rs.length cap'] 25)) := Lib.hid (blk_next hb P3.out)
  have N4 : Hid (Below w.heap.size w w4) := Lib.hid (Bgo N3.out hb)
  clear hb P3 N3
  have x0 : w4.cell? ⟨w.heap.size, 0, none⟩ = some (.slice a l.length cap) := blk_cell P4.out 0 _ rfl
  have x1 : w4.cell? ⟨w.heap.size, 1, none⟩ = some (.slice a' rs.length cap') := blk_cell P4.out 1 _ rfl
  go_wp2_with fail
  clear x0 x1
  refine (K5.out _ N4.out).mono ?_
  rintro e w5 ⟨v, rfl, ho, hb⟩
  obtain ⟨A5, c5, rfl, g5, f5, rd⟩ := Rd.of_own ho
  have R1x := Lib.hid (R1.out.next hb)
  clear R1
  have R1 := R1x
  clear R1x
  have R2x := Lib.hid (R2.out.next hb)
  clear R2
  have R2 := R2x
  clear R2x
  have R5 := Lib.hid rd
  clear ho rd
  have P5 : Hid (w5.heap[w.heap.size]? = some (.cells #[.slice a l.length cap, .slice a' rs.length cap'] 25)) := Lib.hid (blk_next hb P4.out)
  have N5 : Hid (Below w.heap.size w w5) := Lib.hid (Bgo N4.out hb)
  clear hb P4 N4
  have x0 : w5.cell? ⟨w.heap.size, 0, none⟩ = some (.slice a l.length cap) := blk_cell P5.out 0 _ rfl
  have x1 : w5.cell? ⟨w.heap.size, 1, none⟩ = some (.slice a' rs.length cap') := blk_cell P5.out 1 _ rfl
  go_wp2_with fail
  clear x0 x1
  refine (K6.out _ N5.out).mono ?_
  rintro e w6 ⟨v, rfl, ho, hb⟩
  obtain ⟨A6, c6, rfl, g6, f6, rd⟩ := Rd.of_own ho
  have R1x := Lib.hid (R1.out.next hb)
  clear R1
  have R1 := R1x
  clear R1x
  have R2x := Lib.hid (R2.out.next hb)
  clear R2
  have R2 := R2x
  clear R2x
  have R5x := Lib.hid (R5.out.next hb)
  clear R5
  have R5 := R5x
  clear R5x
  have R6 := Lib.hid rd
  clear ho rd
  have P6 : Hid (w6.heap[w.heap.size]? = some (.cells #[.slice a l.length cap, .slice a' rs.length cap'] 25)) := Lib.hid (blk_next hb P5.out)
  have N6 : Hid (Below w.heap.size w w6) := Lib.hid (Bgo N5.out hb)
  clear hb P5 N5
  have x0 : w6.cell? ⟨w.heap.size, 0, none⟩ = some (.slice a l.length cap) := blk_cell P6.out 0 _ rfl
  have x1 : w6.cell? ⟨w.heap.size, 1, none⟩ = some (.slice a' rs.length cap') := blk_cell P6.out 1 _ rfl
  go_wp2_with fail
  clear x0 x1
  go_region_held3 (fun W => W.cell? ⟨w.heap.size, 0, none⟩ = some (.slice a l.length cap) ∧ W.cell? ⟨w.heap.size, 1, none⟩ = some (.slice a' rs.length cap')) (first | (exact ⟨blk_cell Pwb.out 0 _ rfl, blk_cell Pwb.out 1 _ rfl⟩) | (exact ⟨blk_cell Pwa.out 0 _ rfl, blk_cell Pwa.out 1 _ rfl⟩) | (exact ⟨blk_cell P6.out 0 _ rfl, blk_cell P6.out 1 _ rfl⟩) | go_keep) (first | (go_at_call 19; refine (sameBreaches_calls A1 A2 c1 c2 L _ g1 f1 g2 f2 ?_ ?_).mono ?_; (exact bres_of_rd R1wb.out); (exact bres_of_rd R2wb.out); rintro e wc ⟨rfl, n1, rfl⟩) | (go_at_call 20; refine (sameTexts_calls A5 A6 c5 c6 E _ g5 f5 g6 f6 ?_ ?_).mono ?_; (exact R5wb.out); (exact R6wb.out); rintro e wd ⟨rfl, n2, rfl⟩) | (go_at_call 18; refine (K8.out _ ?_).mono ?_; (first | exact Nwa.out | exact Nwa.out.drew); rintro e wb ⟨rfl, hbwb⟩; have Pwb := Lib.hid (blk_next hbwb Pwa.out); have Nwb : Hid (Below w.heap.size w wb) := Lib.hid (by first | exact Bgo Nwa.out hbwb | exact Bgo Nwa.out.drew hbwb); have R1wb := Lib.hid (R1wa.out.next hbwb); have R2wb := Lib.hid (R2wa.out.next hbwb); have R5wb := Lib.hid (R5wa.out.next hbwb); have R6wb := Lib.hid (R6wa.out.next hbwb); clear hbwb) | (go_at_call 17; refine (K7.out _ ?_).mono ?_; (first | exact N6.out | exact N6.out.drew); rintro e wa ⟨rfl, hbwa⟩; have Pwa := Lib.hid (blk_next hbwa P6.out); have Nwa : Hid (Below w.heap.size w wa) := Lib.hid (by first | exact Bgo N6.out hbwa | exact Bgo N6.out.drew hbwa); have R1wa := Lib.hid (R1.out.next hbwa); have R2wa := Lib.hid (R2.out.next hbwa); have R5wa := Lib.hid (R5.out.next hbwa); have R6wa := Lib.hid (R6.out.next hbwa); clear hbwa))
  all_goals
    go_wp2_with fail
    go_ret
    exact ⟨by first | rfl | simp, by repeat (first | exact Nwb.out | refine below_drewN ?_ _ | refine Below.drew ?_)⟩

set_option maxRecDepth 100000 in
theorem lifted (os : Os) (started : os.Started) (H : Type) (enc : TypeId × Value → H) :
    ReturnsInHanded {} Try.checked os 3 .any (Rows.planTellsSpec.pre6 enc Try.prog Try.f3 Rows.planTellsRow.domain false) (Rows.planTellsSpec.post enc Try.prog Try.f3 false true false false) := by
  refine returnsInHanded_of_change (C := Try.checked) own started (by kernel_rfl) Try.func3
    (ChangeSpec.witness6 (enc := enc) (C := Try.checked) false ⟨#[], #[.agg #[.slice none 0 0, .slice none 0 0]], []⟩ 8 (by kernel_rfl) (by kernel_rfl) (by kernel_rfl) (by kernel_rfl)) ?_
  intro W base args ds gs before hval0 hW hcnd _
  have hval : ∀ (j : Nat) t v, Try.f3.params[j]? = some t → args[j]? = some v → Value.okWide Try.prog W .any base t v := hval0
  have hW' := hW
  obtain ⟨p, q, hA0, hV, rfl, hfz, hnd⟩ := hW
  have hA : DataW.TrodAll enc Try.prog W 0 (fun _ => true) true Try.f3.params.toList args.toList ds p := hA0
  rw [Try.params3] at hA hval
  obtain ⟨v0, vs0, d0, ds0, p0, q0, hargs, rfl, rfl, h0, r0⟩ := trodAll_cons hA
  obtain ⟨rfl, rfl, rfl⟩ := trodAll_nil r0
  obtain rfl : args = #[v0] := by cases args; simp_all
  obtain ⟨rfl, rfl⟩ := trodVars_none hV
  have k0 := h0
  have lt0 : ∀ x ∈ p0, x.block < W.heap.size := by obtain ⟨m, hm⟩ := k0; exact DataW.trod_lt m _ _ _ hm
  obtain ⟨c0_0, c1_0, y0_0, y1_0, m0, rfl, _, _, t0_0, t1_0⟩ := open_agg2 Try.underlying25 (by kernel_rfl) (show Try.prog.cellsOf 25 = 2 by kernel_rfl) (hval 0 25 v0 rfl rfl) h0
  obtain ⟨a, l, cap, e0_0, hn, hcap, hs⟩ := open_slots t0_0
  obtain ⟨a', rs, cap', e1_0, hn', hcap', hr⟩ := open_rules t1_0
  simp only [List.cons.injEq, and_true] at e0_0 e1_0
  subst e0_0 e1_0
  clear hA0 hval0
  refine (walk a cap l a' cap' rs W hn hcap hs hn' hcap' hr).mono fun e W' ⟨he, bel⟩ => ?_
  subst he
  exact ⟨_, rfl, _, _, _, [], _, [], hW', trodAll_mk1 (shut_bool Try.underlying4 _), (trodAll_cons_mk (Below.trod laidOut (by kernel_rfl) (of_decide_eq_true (by kernel_rfl)) k0 bel lt0) trodAll_mk0), rfl, bel.frame _, fun h => by cases h⟩

theorem over : Rows.planTellsRow.holds Try.pinned (OpenSpec.ofChange Rows.planTellsSpec) :=
  OpenClaim.holds_of_wide 3 Try.f3 rfl rfl rfl rfl rfl rfl rfl ⟨rfl, rfl, rfl, rfl, rfl⟩ rfl rfl rfl rfl rfl (by kernel_rfl) Try.func3 (by kernel_rfl)
    (of_decide_eq_true (by kernel_rfl)) (by unfold Func.isWrapper; first | (rw [if_pos (by decide +kernel)]; kernel_rfl) | (rw [if_neg (by decide +kernel)]; exact ⟨rfl, rfl⟩))
    (fun os started H enc _ => lifted os started H enc)

theorem proved : Rows.PlanTellsSaid := over
#print axioms proved
end Go.Proofs.Ythmfjlphmamegaa.planTells
