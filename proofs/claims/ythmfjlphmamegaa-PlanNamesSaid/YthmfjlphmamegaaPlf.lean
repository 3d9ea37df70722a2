/- Contracts of layer 43: breaches of a plan, and whether it obeys. -/
import Derived.Test.YthmfjlphmamegaaPlh
import Derived.Test.YthmfjlphmamegaaPlk
import Derived.Test.YthmfjlphmamegaaPli
import Derived.Test.YthmfjlphmamegaaPlr
import Derived.Test.YthmfjlphmamegaaPlq
namespace Go.Proofs.Ythmfjlphmamegaa
open Go.ChangeShapes Go.WideShapes Go.ChangeAt Go.RowKit
set_option linter.unusedVariables false

set_option maxHeartbeats 4000000 in
theorem breaches_calls (a : Option Addr) (cap : Nat) (l : List Slt) (a' : Option Addr) (cap' : Nat) (rs : List Rul) (w : World) (hn : l.length ≤ cap) (hcap : cap ≤ 9223372036854775807) (hs : SlotsIn w a l)
    (hn' : rs.length ≤ cap') (hcap' : cap' ≤ 9223372036854775807) (hr : RulesIn w a' rs) (ok : Okp l rs) :
    Calls Try.prog 35 #[Pv a l.length cap a' rs.length cap'] w (ListPost w (allL l rs)) := by
  obtain ⟨i0, hi, hz0, hz1, hz2⟩ := info_parts infoB
  have HI := Lib.hid (And.intro hi (And.intro hz0 (And.intro hz1 hz2)))
  have h20 := ok.ls
  have h20' := ok.rl
  have HK := Lib.hid ok
  have HS := Lib.hid hs
  have HR := Lib.hid hr
  clear hs hr hi hz0 hz1 hz2 ok
  go_enter Try.func35, Try.ntmps35
  go_wp2_with fail
  refine (near_calls a cap l (-1) (-1) 0 _ hn hcap (by omega) (HS.out.next (Bal (Below.refl _ _) _)) HK.out.tms (by omega) (by omega)).mono ?_
  rintro e w1 ⟨v, rfl, ho, hb⟩
  have HX : Hid (w1.heap[w.heap.size]? = some (.cells #[.slice a l.length cap, .slice a' rs.length cap'] 25)) := Lib.hid (blk_next hb (blk_new w _))
  have HB : Hid (Below w.heap.size w w1) := Lib.hid (Bgo (Bal (Below.refl _ _) _) hb)
  have HO : Hid (w1.ownsRow (w.heap.size + 1) 68 3 v (allTo l rs 0).length (bre (allTo l rs 0))) := Lib.hid (by simpa [allTo] using ho)
  clear ho hb
  have x0 : w1.cell? ⟨w.heap.size, 0, none⟩ = some (.slice a l.length cap) := blk_cell HX.out 0 _ rfl
  have x1 : w1.cell? ⟨w.heap.size, 1, none⟩ = some (.slice a' rs.length cap') := blk_cell HX.out 1 _ rfl
  go_wp2_with fail
  go_loopw [3, 12] (fun v i wr => ∃ k : Nat, k ≤ rs.length ∧ i = .int .i64 k ∧ Hid (Below w.heap.size w wr) ∧ Hid (wr.heap[w.heap.size]? = some (.cells #[.slice a l.length cap, .slice a' rs.length cap'] 25)) ∧ Hid (wr.ownsRow (w.heap.size + 1) 68 3 v (allTo l rs k).length (bre (allTo l rs k)))) (fun _ i _ => rs.length - (intOf i).toNat)
  case atStart => exact ⟨0, by omega, rfl, HB, HX, HO⟩
  case round =>
    clear HO HB HX x0 x1
    obtain ⟨k, hk, rfl, HB, HX, HO⟩ := hrel
    have x0 : wr.cell? ⟨w.heap.size, 0, none⟩ = some (.slice a l.length cap) := blk_cell HX.out 0 _ rfl
    have x1 : wr.cell? ⟨w.heap.size, 1, none⟩ = some (.slice a' rs.length cap') := blk_cell HX.out 1 _ rfl
    have xl := blk_lt HX.out
    by_cases hlt : k < rs.length
    · have hN1 := allTo_len l rs k h20
      have hN2 := brokenL_len l rs[k] (k : Int)
      have hm := sq20 h20
      have HNS := Lib.hid (allTo_succ (l := l) hlt)
      obtain ⟨b, off, rfl, hl, hc⟩ := (HR.out.next HB.out) k hlt
      obtain ⟨c0, c1, c2, c3, c4, c5⟩ := hc
      go_wp2_with fail
      refine (broken_calls a cap l rs[k] (k : Int) _ hn hcap (by omega) ((HS.out.next HB.out).next (Bal (Below.refl _ _) _)) HK.out.tms (HK.out.ru k hlt)).mono ?_
      rintro e w1 ⟨v2, rfl, ho2, hb2⟩
      have HB2 : Hid (Below w.heap.size w w1) := Lib.hid (Bgo (Bal HB.out _) hb2)
      have HX2 := Lib.hid (blk_next hb2 (blk_alloc HX.out _))
      have HO2 := Lib.hid (own_next hb2 (HO.out.alloc _))
      obtain ⟨A2, c2', rfl, _, _, rd2⟩ := Rd.of_own ho2
      have RD := Lib.hid rd2
      have H63 : Hid ((allTo l rs k).length + (brokenL l rs[k] (k : Int)).length ≤ maxLen) := Lib.hid (by unfold maxLen; omega)
      have H64 : Hid (((allTo l rs k).length + (brokenL l rs[k] (k : Int)).length) * 24 ≤ 140737488355328) := Lib.hid (by omega)
      have H5 : Hid (w.heap.size + 1 ≤ w1.heap.size) := Lib.hid (blk_lt HX2.out)
      clear ho2 hb2 rd2 hN1 hN2 hm
      go_wp2_with (at_builtin; refine wpList_append_rd _ rfl _ _ 27 rfl (w.heap.size + 1) 68 i0 (.agg #[.int .i64 0, .int .i64 0, .int .i64 0]) 3 24 Try.underlying27 HI.out.1 HI.out.2.1 HI.out.2.2.1 HI.out.2.2.2 rfl (by decide) _ _ _ rfl HO2.out A2 _ c2' _ rfl RD.out (bre_one _) H63.out H64.out H5.out ?_; intro v3 w3 hown3 hgrow3 hat3)
      have HB3 : Hid (Below w.heap.size w w3) := Lib.hid (own_below2 HO2.out HB2.out (by omega) hgrow3)
      have HX3 := Lib.hid (grown_blk HO2.out HX2.out (by omega) hgrow3)
      have HO3 := Lib.hid hown3
      clear hown3 hgrow3 hat3
      go_wp2_with fail
      refine ⟨⟨k + 1, by omega, by go_num, HB3, HX3, Lib.hid ?_⟩, by simp [intOf]; omega⟩
      rw [HNS.out, bre_append, List.length_append]
      exact HO3.out
    · obtain rfl : k = rs.length := by omega
      go_wp2_with fail
      go_ret
      exact ⟨_, rfl, HO.out.mono (by omega), HB.out⟩
set_option maxHeartbeats 4000000 in
theorem refAll_calls (a : Option Addr) (cap : Nat) (l : List Slt) (a' : Option Addr) (cap' : Nat) (rs : List Rul) (w : World) (hn : l.length ≤ cap) (hcap : cap ≤ 9223372036854775807) (hs : SlotsIn w a l)
    (hn' : rs.length ≤ cap') (hcap' : cap' ≤ 9223372036854775807) (hr : RulesIn w a' rs) (ok : Okp l rs) :
    Calls Try.prog 36 #[Pv a l.length cap a' rs.length cap'] w (ListPost w (allL l rs)) := by
  obtain ⟨i0, hi, hz0, hz1, hz2⟩ := info_parts infoB
  have HI := Lib.hid (And.intro hi (And.intro hz0 (And.intro hz1 hz2)))
  have h20 := ok.ls
  have h20' := ok.rl
  have HK := Lib.hid ok
  have HS := Lib.hid hs
  have HR := Lib.hid hr
  clear hs hr hi hz0 hz1 hz2 ok
  go_enter Try.func36, Try.ntmps36
  go_wp2_with fail
  refine (pairs_calls a cap l a' rs.length cap' (-1) (-1) 0 _ hn hcap (by omega) (HS.out.next (Bal (Below.refl _ _) _)) HK.out.tms (by omega) (by omega) (by omega)).mono ?_
  rintro e w1 ⟨v, rfl, ho, hb⟩
  have HX : Hid (w1.heap[w.heap.size]? = some (.cells #[.slice a l.length cap, .slice a' rs.length cap'] 25)) := Lib.hid (blk_next hb (blk_new w _))
  have HB : Hid (Below w.heap.size w w1) := Lib.hid (Bgo (Bal (Below.refl _ _) _) hb)
  have HO : Hid (w1.ownsRow (w.heap.size + 1) 68 3 v (allTo l rs 0).length (bre (allTo l rs 0))) := Lib.hid (by simpa [allTo] using ho)
  clear ho hb
  have x0 : w1.cell? ⟨w.heap.size, 0, none⟩ = some (.slice a l.length cap) := blk_cell HX.out 0 _ rfl
  have x1 : w1.cell? ⟨w.heap.size, 1, none⟩ = some (.slice a' rs.length cap') := blk_cell HX.out 1 _ rfl
  go_wp2_with fail
  go_loopw [3, 4] (fun v i wr => ∃ k : Nat, k ≤ rs.length ∧ i = .int .i64 k ∧ Hid (Below w.heap.size w wr) ∧ Hid (wr.heap[w.heap.size]? = some (.cells #[.slice a l.length cap, .slice a' rs.length cap'] 25)) ∧ Hid (wr.ownsRow (w.heap.size + 1) 68 3 v (allTo l rs k).length (bre (allTo l rs k)))) (fun _ i _ => rs.length - (intOf i).toNat)
  case atStart => exact ⟨0, by omega, rfl, HB, HX, HO⟩
  case round =>
    clear HO HB HX x0 x1
    obtain ⟨k, hk, rfl, HB, HX, HO⟩ := hrel
    have x0 : wr.cell? ⟨w.heap.size, 0, none⟩ = some (.slice a l.length cap) := blk_cell HX.out 0 _ rfl
    have x1 : wr.cell? ⟨w.heap.size, 1, none⟩ = some (.slice a' rs.length cap') := blk_cell HX.out 1 _ rfl
    have xl := blk_lt HX.out
    by_cases hlt : k < rs.length
    · have hN1 := allTo_len l rs k h20
      have hN2 := brokenL_len l rs[k] (k : Int)
      have hm := sq20 h20
      have HNS := Lib.hid (allTo_succ (l := l) hlt)
      go_wp2_with fail
      refine (refBroken_calls a cap l a' cap' rs k _ hn hcap (by omega) (HS.out.next HB.out) hn' hcap' (HR.out.next HB.out) hlt HK.out.tms (HK.out.ru k hlt)).mono ?_
      rintro e w1 ⟨v2, rfl, ho2, hb2⟩
      have HB2 : Hid (Below w.heap.size w w1) := Lib.hid (Bgo HB.out hb2)
      have HX2 := Lib.hid (blk_next hb2 HX.out)
      have HO2 := Lib.hid (own_next hb2 HO.out)
      obtain ⟨A2, c2', rfl, _, _, rd2⟩ := Rd.of_own ho2
      have RD := Lib.hid rd2
      have H63 : Hid ((allTo l rs k).length + (brokenL l rs[k] (k : Int)).length ≤ maxLen) := Lib.hid (by unfold maxLen; omega)
      have H64 : Hid (((allTo l rs k).length + (brokenL l rs[k] (k : Int)).length) * 24 ≤ 140737488355328) := Lib.hid (by omega)
      have H5 : Hid (w.heap.size + 1 ≤ w1.heap.size) := Lib.hid (blk_lt HX2.out)
      clear ho2 hb2 rd2 hN1 hN2 hm
      go_wp2_with (at_builtin; refine wpList_append_rd _ rfl _ _ 27 rfl (w.heap.size + 1) 68 i0 (.agg #[.int .i64 0, .int .i64 0, .int .i64 0]) 3 24 Try.underlying27 HI.out.1 HI.out.2.1 HI.out.2.2.1 HI.out.2.2.2 rfl (by decide) _ _ _ rfl HO2.out A2 _ c2' _ rfl RD.out (bre_one _) H63.out H64.out H5.out ?_; intro v3 w3 hown3 hgrow3 hat3)
      have HB3 : Hid (Below w.heap.size w w3) := Lib.hid (own_below2 HO2.out HB2.out (by omega) hgrow3)
      have HX3 := Lib.hid (grown_blk HO2.out HX2.out (by omega) hgrow3)
      have HO3 := Lib.hid hown3
      clear hown3 hgrow3 hat3
      go_wp2_with fail
      refine ⟨⟨k + 1, by omega, by go_num, HB3, HX3, Lib.hid ?_⟩, by simp [intOf]; omega⟩
      rw [HNS.out, bre_append, List.length_append]
      exact HO3.out
    · obtain rfl : k = rs.length := by omega
      go_wp2_with fail
      go_ret
      exact ⟨_, rfl, HO.out.mono (by omega), HB.out⟩
end Go.Proofs.Ythmfjlphmamegaa
