/- For every input the law PlanOverrides returns true and leaves its arguments as they were. -/
import Derived.Test.YthmfjlphmamegaaRows
import Derived.Test.YthmfjlphmamegaaPlO
import Derived.WalkKit
import Derived.ProofKit
import Derived.OpenShut
import Derived.ShutString
import Derived.ChangeOld
import Derived.Below
import Derived.Lib.SmallJoins
namespace Go.Proofs.Ythmfjlphmamegaa.planOverrides
open Go.ChangeShapes Go.WideShapes Go.ChangeAt Go.RowKit Go.Joins
open Go.ChangeMaps (open_string shut_string)
set_option linter.unusedVariables false

theorem own : ownKnob Try.prog.godebug = none := by kernel_rfl
theorem laidOut : laidOutB Try.prog = true := by kernel_rfl
theorem only_set {a w : World} {row : Option Nat} (h : a.grownBy w row) {p : Addr} (hp : row = some p.block) (u : Value) : a.grownBy (w.setCell p u) row :=
  ⟨h.os, h.tape, h.output, by simpa [World.setCell] using h.size, fun i hi hne => (Below.heap_setCell w p u i (by rintro rfl; exact hne hp.symm)).trans (h.block i hi hne)⟩
theorem own_far {v v' : Value} {a b c d : Nat} (h : ∀ q, v.ownBlock = some q → a ≤ q ∧ q < b) (h' : ∀ q, v'.ownBlock = some q → c ≤ q ∧ q < d) (hbc : b ≤ c) : v.ownBlock = none ∨ v.ownBlock ≠ v'.ownBlock := by
  cases hv : v.ownBlock with
  | none => exact .inl rfl
  | some q =>
    refine .inr (fun hh => ?_)
    have h1 := h q hv
    have h2 := h' q hh.symm
    omega
attribute [local go_sem ↓] Go.wp_at_zero Go.wp_at_succ
set_option maxHeartbeats 16000000 in
set_option maxRecDepth 100000 in
theorem walk (a : Option Addr) (cap : Nat) (l : List Slt) (a' : Option Addr) (cap' : Nat) (rs : List Rul) (w : World) (hn : l.length ≤ cap) (hcap : cap ≤ 9223372036854775807) (hs : SlotsIn w a l)
    (hn' : rs.length ≤ cap') (hcap' : cap' ≤ 9223372036854775807) (hr : RulesIn w a' rs) (rule : Int) (why : ByteArray) (hwhy : why.size ≤ 9223372036854775807) :
    Calls Try.prog 9 #[Pv a l.length cap a' rs.length cap', .int .i64 rule, .string why] w fun e w' => e = .returned (.bool true) ∧ Below w.heap.size w w' := by
  have HS := Lib.hid hs
  have HR := Lib.hid hr
  clear hs hr
  have K1 := Lib.hid (fun (W : World) (hW : Below w.heap.size w W) => great_calls a cap l a' cap' rs W hn hcap (HS.out.next hW) hn' hcap' (HR.out.next hW))
  have K2 := Lib.hid (fun (W : World) (hW : Below w.heap.size w W) => refCheck_calls a cap l a' cap' rs W hn hcap (HS.out.next hW) hn' hcap' (HR.out.next hW))
  have K3 := Lib.hid (fun (W : World) (hW : Below w.heap.size w W) => override_calls a cap l a' cap' rs W hn hcap (HS.out.next hW) hn' hcap' (HR.out.next hW) rule why hwhy)
  have K4 := Lib.hid (fun (W : World) (hW : Below w.heap.size w W) => breachesX_calls a cap l a' cap' rs W hn hcap (HS.out.next hW) hn' hcap' (HR.out.next hW))
  have K6 := Lib.hid (fun (W : World) (hW : Below w.heap.size w W) => obeysX_calls a cap l a' cap' rs W hn hcap (HS.out.next hW) hn' hcap' (HR.out.next hW))
  have K8 := Lib.hid (fun (W : World) (hW : Below w.heap.size w W) (h30 : l.length ≤ 30) (h30x : rs.length ≤ 30) => twin_calls a cap l a' cap' rs W hn hcap (HS.out.next hW) hn' hcap' (HR.out.next hW) h30 h30x)
  go_enter Try.func9, Try.ntmps9
  go_wp2_with fail
  refine (alive_calls _).mono ?_
  rintro e w0 ⟨rfl, hb⟩
  have P0 : Hid (w0.heap[w.heap.size]? = some (.cells #[.slice a l.length cap, .slice a' rs.length cap'] 25)) := Lib.hid (blk_next hb (blk_new w _))
  have N0 : Hid (Below w.heap.size w w0) := Lib.hid (Bgo (Bal (Below.refl _ _) _) hb)
  clear hb
  have p0 : w0.cell? ⟨w.heap.size, 0, none⟩ = some (.slice a l.length cap) := blk_cell P0.out 0 _ rfl
  have p1 : w0.cell? ⟨w.heap.size, 1, none⟩ = some (.slice a' rs.length cap') := blk_cell P0.out 1 _ rfl
  have xl := blk_lt P0.out
  go_wp2_with fail
  clear p0 p1 xl
  refine (K1.out _ N0.out).mono ?_
  rintro e w1 ⟨g, rfl, hg, hb⟩
  have P1 : Hid (w1.heap[w.heap.size]? = some (.cells #[.slice a l.length cap, .slice a' rs.length cap'] 25)) := Lib.hid (blk_next hb P0.out)
  have N1 : Hid (Below w.heap.size w w1) := Lib.hid (Bgo N0.out hb)
  clear hb P0 N0 K1
  have p0 : w1.cell? ⟨w.heap.size, 0, none⟩ = some (.slice a l.length cap) := blk_cell P1.out 0 _ rfl
  have p1 : w1.cell? ⟨w.heap.size, 1, none⟩ = some (.slice a' rs.length cap') := blk_cell P1.out 1 _ rfl
  have xl := blk_lt P1.out
  cases g
  case true =>
    go_wp2_with fail
    go_ret
    exact ⟨rfl, N1.out⟩
  obtain ⟨h30, h30'⟩ := hg rfl
  clear hg
  go_wp2_with fail
  clear p0 p1 xl
  refine (K2.out _ N1.out).mono ?_
  rintro e w2 ⟨rfl, hb⟩
  have P2 : Hid (w2.heap[w.heap.size]? = some (.cells #[.slice a l.length cap, .slice a' rs.length cap'] 25)) := Lib.hid (blk_next hb P1.out)
  have N2 : Hid (Below w.heap.size w w2) := Lib.hid (Bgo N1.out hb)
  clear hb P1 N1 K2
  have p0 : w2.cell? ⟨w.heap.size, 0, none⟩ = some (.slice a l.length cap) := blk_cell P2.out 0 _ rfl
  have p1 : w2.cell? ⟨w.heap.size, 1, none⟩ = some (.slice a' rs.length cap') := blk_cell P2.out 1 _ rfl
  have xl := blk_lt P2.out
  by_cases hE : checkE l rs = 0
  case neg =>
    have hne : (checkE l rs != 0) = true := by simpa using hE
    go_wp2_with fail
    go_ret
    exact ⟨rfl, N2.out⟩
  have ok := okp_of hE
  have OK := Lib.hid ok
  have h20 := ok.ls
  have h20' := ok.rl
  rw [hE]
  have HE := Lib.hid hE
  have FB : Hid (brL l rs = allL l rs) := Lib.hid (by unfold brL; rw [if_pos hE])
  have FO : Hid (obL l rs = obeysB l rs) := Lib.hid (by unfold obL; rw [if_pos hE])
  rw [hE, FB.out] at K4
  rw [hE, FO.out] at K6
  clear ok
  by_cases hb1 : rule < 0
  · go_wp2_with fail
    go_ret
    exact ⟨rfl, N2.out⟩
  by_cases hb2 : (rs.length : Int) ≤ rule
  · go_wp2_with fail
    go_ret
    exact ⟨rfl, N2.out⟩
  by_cases hb3 : why.size < 1
  · go_wp2_with fail
    go_ret
    exact ⟨rfl, N2.out⟩
  by_cases hb4 : 40 < why.size
  · go_wp2_with fail
    go_ret
    exact ⟨rfl, N2.out⟩
  have FV : Hid (ovE l rs rule why = 0) := Lib.hid (by unfold ovE; rw [if_neg (by simpa using hE), if_neg (by omega), if_neg hb4])
  obtain ⟨j, rfl⟩ : ∃ j : Nat, rule = (j : Int) := ⟨rule.toNat, by omega⟩
  have hj : j < rs.length := by omega
  have FL : Hid (ovL l rs (j : Int) why = l) := Lib.hid (by unfold ovL; rw [FV.out, if_pos rfl])
  have FR : Hid (ovRs l rs (j : Int) why = ovR rs j why) := Lib.hid (by unfold ovRs; rw [FV.out, if_pos rfl, Int.toNat_natCast])
  have OK2 := Lib.hid (ov_ok OK.out j why (by omega))
  have FB2 : Hid (brL l (ovR rs j why) = allL l rs) := Lib.hid (by unfold brL; rw [if_pos (okp_zero OK2.out), ov_all])
  have FO2 : Hid (obL l (ovR rs j why) = obeysB l (ovR rs j why)) := Lib.hid (by unfold obL; rw [if_pos (okp_zero OK2.out)])
  have FI : Hid (obeysB l rs = true → obeysB l (ovR rs j why) = true) := Lib.hid (ov_obeys j why (by omega))
  have OK3 := Lib.hid (fr_ok OK.out why (by omega))
  have FO3 : Hid (obL l (rs.map (wy why)) = !((allL l rs).any fun x => x.1 == -1)) := Lib.hid (by unfold obL; rw [if_pos (okp_zero OK3.out)]; exact fr_obeys l rs why (by omega))
  have FX3 : Hid ((exL l (rs.map (wy why))).length = cntTo (allL l rs) (allL l rs).length) := Lib.hid (by unfold exL; rw [if_pos (okp_zero OK3.out)]; exact fr_exc l rs why (by omega))
  have FC2 := Lib.hid (okp_zero OK2.out)
  have FC3 := Lib.hid (okp_zero OK3.out)
  have FRL := Lib.hid (allTo_rule l rs rs.length (Nat.le_refl _))
  have FRL2 : Hid (∀ x ∈ allL l rs, x.1 = -1 ∨ ∃ j : Nat, j < rs.length ∧ x.1 = (j : Int)) := FRL
  have FLN : Hid ((allL l rs).length ≤ 9000) := Lib.hid (by have := allTo_len l rs rs.length h20; unfold allL; omega)
  rw [FV.out, FL.out, FR.out] at K3
  clear FRL hE FB FO FV FL FR HE OK2 OK3
  have RRL : Hid ((ovR rs j why).length = rs.length) := Lib.hid (ovR_len rs j why)
  generalize ovR rs j why = RR at *
  generalize allL l rs = L at *
  generalize obeysB l rs = ob at *
  generalize obeysB l RR = ob2 at *
  clear hb1 hb2
  go_wp2_with fail
  clear p0 p1 xl
  refine (K3.out _ N2.out).mono ?_
  rintro e w3 ⟨v1, v2, rfl, o1, o2, hb⟩
  rw [RRL.out] at o2
  obtain ⟨A, c, rfl, y1, z1, _⟩ := Rd.of_own o1
  obtain ⟨B, d, rfl, y2, z2, _⟩ := Rd.of_own o2
  have P3 : Hid (w3.heap[w.heap.size]? = some (.cells #[.slice a l.length cap, .slice a' rs.length cap'] 25)) := Lib.hid (blk_next hb P2.out)
  have N3 : Hid (Below w.heap.size w w3) := Lib.hid (Bgo N2.out hb)
  have S3 : Hid (OwnsS w3 w2.heap.size A l.length c l) := Lib.hid o1
  have R3 : Hid (OwnsR w3 w2.heap.size B rs.length d RR) := Lib.hid o2
  have u2 := blk_lt P2.out
  clear hb o1 o2 P2 N2
  have p0 : w3.cell? ⟨w.heap.size, 0, none⟩ = some (.slice a l.length cap) := blk_cell P3.out 0 _ rfl
  have p1 : w3.cell? ⟨w.heap.size, 1, none⟩ = some (.slice a' rs.length cap') := blk_cell P3.out 1 _ rfl
  have xl := blk_lt P3.out
  go_wp2_with fail
  clear p0 p1 xl
  refine (K4.out _ (Bal N3.out _)).mono ?_
  rintro e w4 ⟨v4, rfl, o4, hb⟩
  obtain ⟨A4, c4, rfl, g4, f4, _⟩ := Rd.of_own o4
  have B4 := Lib.hid o4
  have P4 : Hid (w4.heap[w.heap.size]? = some (.cells #[.slice a l.length cap, .slice a' rs.length cap'] 25)) := Lib.hid (blk_next hb (blk_alloc P3.out _))
  have Q4 : Hid (w4.heap[w3.heap.size]? = some (.cells #[.slice A l.length c, .slice B rs.length d] 25)) := Lib.hid (blk_next hb (blk_new w3 _))
  have S4 := Lib.hid (own_next hb (S3.out.alloc _))
  have R4 := Lib.hid (own_next hb (R3.out.alloc _))
  have N4 : Hid (Below w.heap.size w w4) := Lib.hid (Bgo (Bal N3.out _) hb)
  clear hb o4 P3 S3 R3 N3
  have e0 : w4.cell? ⟨w3.heap.size, 0, none⟩ = some (.slice A l.length c) := blk_cell Q4.out 0 _ rfl
  have e1 : w4.cell? ⟨w3.heap.size, 1, none⟩ = some (.slice B rs.length d) := blk_cell Q4.out 1 _ rfl
  go_wp2_with fail
  clear e0 e1
  refine (brO rfl RRL.out S4.out R4.out).mono ?_
  rw [FB2.out, FC2.out]
  rintro e w5 ⟨v5, rfl, o5, hb⟩
  obtain ⟨A5, c5, rfl, g5, f5, _⟩ := Rd.of_own o5
  have C5 := Lib.hid o5
  have B5 := Lib.hid (own_next hb B4.out)
  have P5 := Lib.hid (blk_next hb P4.out)
  have Q5 := Lib.hid (blk_next hb Q4.out)
  have S5 := Lib.hid (own_next hb S4.out)
  have R5 := Lib.hid (own_next hb R4.out)
  have N5 : Hid (Below w.heap.size w w5) := Lib.hid (Bgo N4.out hb)
  clear hb o5 B4 P4 Q4 S4 R4 N4
  have p0 : w5.cell? ⟨w.heap.size, 0, none⟩ = some (.slice a l.length cap) := blk_cell P5.out 0 _ rfl
  have p1 : w5.cell? ⟨w.heap.size, 1, none⟩ = some (.slice a' rs.length cap') := blk_cell P5.out 1 _ rfl
  have xl := blk_lt P5.out
  go_wp2_with fail
  clear p0 p1 xl
  refine (K6.out _ N5.out).mono ?_
  rintro e w6 ⟨rfl, hb⟩
  have C6 := Lib.hid (own_next hb C5.out)
  have B6 := Lib.hid (own_next hb B5.out)
  have P6 := Lib.hid (blk_next hb P5.out)
  have Q6 := Lib.hid (blk_next hb Q5.out)
  have S6 := Lib.hid (own_next hb S5.out)
  have R6 := Lib.hid (own_next hb R5.out)
  have N6 : Hid (Below w.heap.size w w6) := Lib.hid (Bgo N5.out hb)
  clear hb C5 B5 P5 Q5 S5 R5 N5
  have e0 : w6.cell? ⟨w3.heap.size, 0, none⟩ = some (.slice A l.length c) := blk_cell Q6.out 0 _ rfl
  have e1 : w6.cell? ⟨w3.heap.size, 1, none⟩ = some (.slice B rs.length d) := blk_cell Q6.out 1 _ rfl
  go_wp2_with fail
  clear e0 e1
  refine (obO rfl RRL.out S6.out R6.out).mono ?_
  rw [FO2.out, FC2.out]
  rintro e w7 ⟨rfl, hb⟩
  have C7 := Lib.hid (own_next hb C6.out)
  have B7 := Lib.hid (own_next hb B6.out)
  have P7 := Lib.hid (blk_next hb P6.out)
  have N7 : Hid (Below w.heap.size w w7) := Lib.hid (Bgo N6.out hb)
  clear hb C6 B6 P6 Q6 S6 R6 N6
  go_wp2_with fail
  refine (sameBreaches_calls A4 A5 c4 c5 L _ g4 f4 g5 f5 (bres_rd (own_rd B7.out)) (bres_rd (own_rd C7.out))).mono ?_
  rintro e wx ⟨rfl, n8, rfl⟩
  have N7d : Hid (Below w.heap.size w (w7.drewN n8)) := Lib.hid (below_drewN N7.out _)
  have P7d : Hid ((w7.drewN n8).heap[w.heap.size]? = some (.cells #[.slice a l.length cap, .slice a' rs.length cap'] 25)) := Lib.hid P7.out
  have B7d : Hid ((w7.drewN n8).ownsRow (w3.alloc (.cells #[.slice A l.length c, .slice B rs.length d] 25)).heap.size 68 3 (.slice A4 L.length c4) L.length (bre L)) := Lib.hid B7.out
  clear N7 P7 B7 C7
  generalize w7.drewN n8 = w8 at *
  have p0 : w8.cell? ⟨w.heap.size, 0, none⟩ = some (.slice a l.length cap) := blk_cell P7d.out 0 _ rfl
  have p1 : w8.cell? ⟨w.heap.size, 1, none⟩ = some (.slice a' rs.length cap') := blk_cell P7d.out 1 _ rfl
  have xl := blk_lt P7d.out
  have hob : ob = false ∨ (ob = true ∧ ob2 = true) := by
    cases ob
    · exact .inl rfl
    · exact .inr ⟨rfl, FI.out rfl⟩
  clear FI
  rcases hob with rfl | ⟨rfl, rfl⟩
  all_goals
    go_wp2_with fail
    clear p0 p1 xl
    refine (K8.out _ N7d.out h30 h30').mono ?_
    rintro e w9 ⟨v1, v2, rfl, o1, o2, hb⟩
    obtain ⟨E, m, rfl, y3, z3, _⟩ := Rd.of_own o1
    obtain ⟨G, n, rfl, y4, z4, _⟩ := Rd.of_own o2
    have Q9 : Hid ((w9.alloc (.cells #[.slice E l.length m, .slice G rs.length n] 25)).heap[w9.heap.size]? = some (.cells #[.slice E l.length m, .slice G rs.length n] 25)) := Lib.hid (blk_new w9 _)
    have N9 : Hid (Below w.heap.size w (w9.alloc (.cells #[.slice E l.length m, .slice G rs.length n] 25))) := Lib.hid (Bal (Bgo N7d.out hb) _)
    have S9 : Hid (OwnsS (w9.alloc (.cells #[.slice E l.length m, .slice G rs.length n] 25)) w8.heap.size E l.length m l) := Lib.hid (o1.alloc _)
    have R9 : Hid (OwnsR (w9.alloc (.cells #[.slice E l.length m, .slice G rs.length n] 25)) w8.heap.size G rs.length n rs) := Lib.hid (o2.alloc _)
    have B9 := Lib.hid ((own_next hb B7d.out).alloc (.cells #[.slice E l.length m, .slice G rs.length n] 25))
    have LR : Hid (∀ q, (Value.slice G rs.length n).ownBlock = some q → w8.heap.size ≤ q ∧ q < w9.heap.size) := Lib.hid (fun q h => o2.lt q h)
    have RS : Hid ((Value.slice E l.length m).ownBlock = none ∨ (Value.slice E l.length m).ownBlock ≠ (Value.slice G rs.length n).ownBlock) := Lib.hid (own_own o2 o1 (by decide))
    have RB : Hid ((Value.slice A4 L.length c4).ownBlock = none ∨ (Value.slice A4 L.length c4).ownBlock ≠ (Value.slice G rs.length n).ownBlock) := Lib.hid (own_own o2 (own_next hb B7d.out) (by decide))
    have u8 : w.heap.size ≤ w8.heap.size := N7d.out.size
    clear hb o1 o2 P7d N7d B7d
    go_wp2_with fail
    generalize w9.alloc (.cells #[.slice E l.length m, .slice G rs.length n] 25) = W9 at *
    have x1 : W9.cell? ⟨w9.heap.size, 1, none⟩ = some (.slice G rs.length n) := blk_cell Q9.out 1 _ rfl
    go_loopw [19] (fun i wr => ∃ k : Nat, k ≤ rs.length ∧ i = .int .i64 k ∧ Hid (W9.grownBy wr (Value.slice G rs.length n).ownBlock) ∧ Hid (OwnsR wr w8.heap.size G rs.length n (upd (wy why) rs k))) (fun i _ => rs.length - (intOf i).toNat)
    case atStart => exact ⟨0, by omega, rfl, Lib.hid (World.grownBy.refl _ _), Lib.hid (by rw [upd_zero]; exact R9.out)⟩
    case round =>
      obtain ⟨k, hk, rfl, GR, OR⟩ := hrel
      clear x1
      have Q10 := Lib.hid (gblk GR.out Q9.out (fun h => by have := (LR.out _ h.symm).2; omega))
      have x1 : wr.cell? ⟨w9.heap.size, 1, none⟩ = some (.slice G rs.length n) := blk_cell Q10.out 1 _ rfl
      by_cases hlt : k < rs.length
      · have ow := OR.out
        rcases ow.2 with ⟨_, hbad⟩ | ⟨g, c', cur, hv, hgb, hg, _, _, _, _⟩
        · omega
        simp only [Value.slice.injEq, true_and] at hv
        obtain ⟨rfl, rfl⟩ := hv
        have hgl : g < wr.heap.size := blk_lt hg
        have LG := LR.out g rfl
        have hku : k < (upd (wy why) rs k).length := by rw [upd_len]; exact hlt
        have f5 : wr.cell? ⟨g, k * 6 + 5, none⟩ = some (.string rs[k].why) := by
          rw [ow.cellAt (k * 6 + 5) (by omega)]
          unfold rlc
          rw [fm_get rl6 6 rl6_len _ k 5 hku (by omega), upd_at (wy why) rs k hlt]; rfl
        have q5 : wr.frozen? ⟨g, k * 6 + 5, none⟩ = false := ow.frozenAt _
        have km0 : (0 : Int) ≤ (k : Int) := by omega
        have km1 : (k : Int) < (rs.length : Int) := by omega
        have OW2 : Hid (OwnsR (wr.setCell ⟨g, k * 6 + 5, none⟩ (.string why)) w8.heap.size (some ⟨g, 0, none⟩) rs.length n (upd (wy why) rs (k + 1))) := Lib.hid (by
          have := (ow.stored (k * 6 + 5) (.string why)).1
          unfold rlc at this
          rw [fm_set rl6 6 rl6_len _ k 5 hku (by omega) _ (wy why rs[k]) (by rw [upd_at (wy why) rs k hlt]; rfl)] at this
          rw [← upd_succ (wy why) rs k hlt] at this
          exact this)
        have GR2 := Lib.hid (only_set GR.out (p := ⟨g, k * 6 + 5, none⟩) rfl (.string why))
        clear ow hg
        go_wp2_with fail
        exact ⟨⟨k + 1, by omega, by go_num, GR2, OW2⟩, by simp [intOf]; omega⟩
      · obtain rfl : k = rs.length := by omega
        rw [upd_all] at OR
        have S10 : Hid (OwnsS wr w8.heap.size E l.length m l) := Lib.hid (S9.out.kept GR.out RS.out)
        have B10 := Lib.hid (B9.out.kept GR.out RB.out)
        have N10 : Hid (Below w.heap.size w wr) := Lib.hid (gbel GR.out N9.out (fun q h => by have := LR.out q h; omega))
        clear GR S9 B9 N9 Q9 R9
        have x0 : wr.cell? ⟨w9.heap.size, 0, none⟩ = some (.slice E l.length m) := blk_cell Q10.out 0 _ rfl
        go_wp2_with fail
        clear x0 x1
        refine (obO rfl (show (rs.map (wy why)).length = rs.length by simp) S10.out OR.out).mono ?_
        rw [FO3.out, FC3.out]
        rintro e w11 ⟨rfl, hb⟩
        have Q11 := Lib.hid (blk_next hb Q10.out)
        have S11 := Lib.hid (own_next hb S10.out)
        have R11 := Lib.hid (own_next hb OR.out)
        have B11 := Lib.hid (own_next hb B10.out)
        have N11 : Hid (Below w.heap.size w w11) := Lib.hid (Bgo N10.out hb)
        clear hb Q10 S10 OR B10 N10
        have x0 : w11.cell? ⟨w9.heap.size, 0, none⟩ = some (.slice E l.length m) := blk_cell Q11.out 0 _ rfl
        have x1 : w11.cell? ⟨w9.heap.size, 1, none⟩ = some (.slice G rs.length n) := blk_cell Q11.out 1 _ rfl
        go_wp2_with fail
        clear x0 x1
        refine (exO rfl (show (rs.map (wy why)).length = rs.length by simp) S11.out R11.out).mono ?_
        rw [FC3.out]
        rintro e w12 ⟨v12, rfl, o12, hb⟩
        rw [FX3.out] at o12
        obtain ⟨A12, c12, rfl, _, _, _⟩ := Rd.of_own o12
        have B12 := Lib.hid (bres_rd (own_rd (own_next hb B11.out)))
        have N12 : Hid (Below w.heap.size w w12) := Lib.hid (Bgo N11.out hb)
        clear hb Q11 S11 R11 B11 N11 o12
        have hLN := FLN.out
        go_wp2_with fail
        go_loopw [24, 25, 26] (fun cl br i wr => ∃ k n : Nat, k ≤ L.length ∧ i = .int .i64 k ∧ cl = .bool ((L.take k).any fun x => x.1 == -1) ∧ br = .int .i64 (cntTo L k) ∧ wr = w12.drewN n) (fun _ _ i _ => L.length - (intOf i).toNat)
        case atStart => exact ⟨0, 0, by omega, rfl, rfl, rfl, rfl⟩
        case round =>
          obtain ⟨k, nq0, hk, rfl, rfl, rfl, rfl⟩ := hrel
          by_cases hlt : k < L.length
          · obtain ⟨b1, o1, rfl, _, c0, _, _⟩ := B12.out k hlt
            have km0 : (0 : Int) ≤ (k : Int) := by omega
            have km1 : (k : Int) < (L.length : Int) := by omega
            have hcl := cntTo_le L k
            have HA : Hid ((L.take (k + 1)).any (fun x => x.1 == -1) = ((L.take k).any (fun x => x.1 == -1) || (L[k].1 == -1))) := Lib.hid (by rw [List.take_succ_eq_append_getElem hlt, List.any_append]; simp)
            have HC : Hid (cntTo L (k + 1) = cntTo L k + (if (decide (0 ≤ L[k].1) && (decide (k = 0) || !((L.getD (k - 1) b0).1 == L[k].1))) then 1 else 0)) := Lib.hid (by
              rw [cntTo_succ]; unfold cntB
              have e : L.getD k b0 = L[k] := by simp [List.getD_eq_getElem?_getD, List.getElem?_eq_getElem hlt]
              rw [e])
            have hx := FRL2.out _ (List.getElem_mem hlt)
            generalize (L.take k).any (fun x => x.1 == -1) = cl0 at *
            generalize cntTo L k = ct0 at *
            rcases hx with hx | ⟨jx, hjx, hx⟩
            · have q1 : (L[k].1 == -1) = true := by rw [hx]; rfl
              have q2 : decide ((0 : Int) ≤ L[k].1) = false := by rw [hx]; rfl
              have HA2 : Hid ((L.take (k + 1)).any (fun x => x.1 == -1) = true) := Lib.hid (by rw [HA.out, q1, Bool.or_true])
              have HC2 : Hid (cntTo L (k + 1) = ct0) := Lib.hid (by rw [HC.out, q2]; rfl)
              clear hx HA HC
              cases cl0
              all_goals
                go_wp2_with fail
                go_quiet (fail)
                go_wp2_with fail
                exact ⟨⟨k + 1, nq0 + nq, by omega, by go_num, by rw [HA2.out], by rw [HC2.out], by first | rfl | rw [World.drewN_drewN]⟩, by simp [intOf]; omega⟩
            · have q1 : (L[k].1 == -1) = false := by rw [hx]; simp
              have q2 : decide ((0 : Int) ≤ L[k].1) = true := by rw [hx]; simp
              have HA2 : Hid ((L.take (k + 1)).any (fun x => x.1 == -1) = cl0) := Lib.hid (by rw [HA.out, q1, Bool.or_false])
              by_cases hk0 : k = 0
              · have q3 : ((k : Int) == 0) = true := by rw [hk0]; rfl
                have HC2 : Hid (cntTo L (k + 1) = ct0 + 1) := Lib.hid (by rw [HC.out, q2, decide_eq_true hk0]; rfl)
                clear hx HA HC hk0
                cases cl0
                all_goals
                  go_wp2_with fail
                  go_quiet (fail)
                  go_wp2_with fail
                  exact ⟨⟨k + 1, nq0 + nq, by omega, by go_num, by rw [HA2.out], by rw [HC2.out]; go_num, by first | rfl | rw [World.drewN_drewN]⟩, by simp [intOf]; omega⟩
              · obtain ⟨k', rfl⟩ : ∃ k', k = k' + 1 := ⟨k - 1, by omega⟩
                obtain ⟨b2, o2, e2, _, d0, _, _⟩ := B12.out k' (by omega)
                simp only [Option.some.injEq, Addr.mk.injEq] at e2
                obtain ⟨rfl, rfl, _⟩ := e2
                have q3 : (((k' + 1 : Nat) : Int) == 0) = false := by simp; omega
                have q3' : ((k' : Int) + 1 == 0) = false := by simp; omega
                have hw1 : IntKind.i64.wrap (((k' + 1 : Nat) : Int) - 1) = (k' : Int) := by rw [IntWalk.i64_in _ (by omega)]; omega
                have hw2 : IntKind.i64.wrap ((k' : Int) + 1 - 1) = (k' : Int) := by rw [IntWalk.i64_in _ (by omega)]; omega
                have km2 : (0 : Int) ≤ (k' : Int) := by omega
                have km3 : (k' : Int) < (L.length : Int) := by omega
                have ek : L.getD (k' + 1 - 1) b0 = L[k']'(by omega) := by
                  rw [List.getD_eq_getElem?_getD, show k' + 1 - 1 = k' by omega, List.getElem?_eq_getElem (by omega)]; rfl
                have HC3 : Hid (cntTo L (k' + 1 + 1) = ct0 + (if (!(L[k'].1 == L[k' + 1].1)) then 1 else 0)) := Lib.hid (by rw [HC.out, q2, ek, decide_eq_false (by omega)]; rfl)
                clear hx HA HC hk0 ek
                cases q4 : (L[k'].1 != L[k' + 1].1)
                · have HC2 : Hid (cntTo L (k' + 1 + 1) = ct0) := Lib.hid (by rw [HC3.out]; have q5 : (L[k'].1 == L[k' + 1].1) = true := by { simpa using q4 }; rw [q5]; rfl)
                  clear HC3
                  cases cl0
                  all_goals
                    go_wp2_with fail
                    go_quiet (fail)
                    go_wp2_with fail
                    exact ⟨⟨k' + 1 + 1, nq0 + nq, by omega, by go_num, by rw [HA2.out], by rw [HC2.out], by first | rfl | rw [World.drewN_drewN]⟩, by simp [intOf]; omega⟩
                · have HC2 : Hid (cntTo L (k' + 1 + 1) = ct0 + 1) := Lib.hid (by rw [HC3.out]; have q5 : (L[k'].1 == L[k' + 1].1) = false := by { simpa using q4 }; rw [q5]; rfl)
                  clear HC3
                  cases cl0
                  all_goals
                    go_wp2_with fail
                    go_quiet (fail)
                    go_wp2_with fail
                    exact ⟨⟨k' + 1 + 1, nq0 + nq, by omega, by go_num, by rw [HA2.out], by rw [HC2.out]; go_num, by first | rfl | rw [World.drewN_drewN]⟩, by simp [intOf]; omega⟩
          · obtain rfl : k = L.length := by omega
            rw [List.take_length]
            have hcl := cntTo_le L L.length
            generalize L.any (fun x => x.1 == -1) = cl at *
            generalize cntTo L L.length = ct at *
            cases cl
            all_goals
              go_wp2_with fail
              go_ret
              exact ⟨by first | rfl | simp, below_drewN N12.out _⟩

set_option maxRecDepth 100000 in
theorem lifted (os : Os) (started : os.Started) (H : Type) (enc : TypeId × Value → H) :
    ReturnsInHanded {} Try.checked os 9 .any (Rows.planOverridesSpec.pre6 enc Try.prog Try.f9 Rows.planOverridesRow.domain false) (Rows.planOverridesSpec.post enc Try.prog Try.f9 false true false false) := by
  refine returnsInHanded_of_change (C := Try.checked) own started (by kernel_rfl) Try.func9
    (ChangeSpec.witness6 (enc := enc) (C := Try.checked) false ⟨#[], #[.agg #[.slice none 0 0, .slice none 0 0], .int .i64 0, .string ⟨#[]⟩], []⟩ 8 (by kernel_rfl) (by kernel_rfl) (by kernel_rfl) (by kernel_rfl)) ?_
  intro W base args ds gs before hval0 hW hcnd _
  have hval : ∀ (j : Nat) t v, Try.f9.params[j]? = some t → args[j]? = some v → Value.okWide Try.prog W .any base t v := hval0
  have hW' := hW
  obtain ⟨p, q, hA0, hV, rfl, hfz, hnd⟩ := hW
  have hA : DataW.TrodAll enc Try.prog W 0 (fun _ => true) true Try.f9.params.toList args.toList ds p := hA0
  rw [Try.params9] at hA hval
  obtain ⟨v0, vs0, d0, ds0, p0, q0, hargs, rfl, rfl, h0, r0⟩ := trodAll_cons hA
  obtain ⟨v1, vs1, d1, ds1, p1, q1, rfl, rfl, rfl, h1, r1⟩ := trodAll_cons r0
  obtain ⟨v2, vs2, d2, ds2, p2, q2, rfl, rfl, rfl, h2, r2⟩ := trodAll_cons r1
  obtain ⟨rfl, rfl, rfl⟩ := trodAll_nil r2
  obtain rfl : args = #[v0, v1, v2] := by cases args; simp_all
  obtain ⟨rfl, rfl⟩ := trodVars_none hV
  have k0 := h0
  have lt0 : ∀ x ∈ p0, x.block < W.heap.size := by obtain ⟨m, hm⟩ := k0; exact DataW.trod_lt m _ _ _ hm
  obtain ⟨c0_0, c1_0, y0_0, y1_0, m0, rfl, _, _, t0_0, t1_0⟩ := open_agg2 Try.underlying25 (by kernel_rfl) (show Try.prog.cellsOf 25 = 2 by kernel_rfl) (hval 0 25 v0 rfl rfl) h0
  obtain ⟨a, l, cap, e0_0, hn, hcap, hs⟩ := open_slots t0_0
  obtain ⟨a', rs, cap', e1_0, hn', hcap', hr⟩ := open_rules t1_0
  simp only [List.cons.injEq, and_true] at e0_0 e1_0
  subst e0_0 e1_0
  have k1 := h1
  have lt1 : ∀ x ∈ p1, x.block < W.heap.size := by obtain ⟨m, hm⟩ := k1; exact DataW.trod_lt m _ _ _ hm
  obtain ⟨rule, rfl, _, _, wrule⟩ := open_int Try.underlying3 (hval 1 3 v1 rfl rfl) h1
  have k2 := h2
  have lt2 : ∀ x ∈ p2, x.block < W.heap.size := by obtain ⟨m, hm⟩ := k2; exact DataW.trod_lt m _ _ _ hm
  obtain ⟨why, rfl, _, _, hwhy⟩ := open_string Try.underlying9 (hval 2 9 v2 rfl rfl) h2
  have hwhym : why.size ≤ 9223372036854775807 := by simpa [maxLen] using hwhy
  clear hA0 hval0
  refine (walk a cap l a' cap' rs W hn hcap hs hn' hcap' hr rule why hwhym).mono fun e W' ⟨he, bel⟩ => ?_
  subst he
  exact ⟨_, rfl, _, _, _, [], _, [], hW', trodAll_mk1 (shut_bool Try.underlying4 _), (trodAll_cons_mk (Below.trod laidOut (by kernel_rfl) (of_decide_eq_true (by kernel_rfl)) k0 bel lt0) (trodAll_cons_mk (Below.trod laidOut (by kernel_rfl) (of_decide_eq_true (by kernel_rfl)) k1 bel lt1) (trodAll_cons_mk (Below.trod laidOut (by kernel_rfl) (of_decide_eq_true (by kernel_rfl)) k2 bel lt2) trodAll_mk0))), rfl, bel.frame _, fun h => by cases h⟩

theorem over : Rows.planOverridesRow.holds Try.pinned (OpenSpec.ofChange Rows.planOverridesSpec) :=
  OpenClaim.holds_of_wide 9 Try.f9 rfl rfl rfl rfl rfl rfl rfl ⟨rfl, rfl, rfl, rfl, rfl⟩ rfl rfl rfl rfl rfl (by kernel_rfl) Try.func9 (by kernel_rfl)
    (of_decide_eq_true (by kernel_rfl)) (by unfold Func.isWrapper; first | (rw [if_pos (by decide +kernel)]; kernel_rfl) | (rw [if_neg (by decide +kernel)]; exact ⟨rfl, rfl⟩))
    (fun os started H enc _ => lifted os started H enc)

theorem proved : Rows.PlanOverridesSaid := over
#print axioms proved
end Go.Proofs.Ythmfjlphmamegaa.planOverrides
