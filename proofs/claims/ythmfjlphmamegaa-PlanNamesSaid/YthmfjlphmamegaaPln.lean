/- Contracts of layer 43: breaches by two slots of a station, of the reference. -/
import Derived.Test.YthmfjlphmamegaaPlo
import Derived.RegionTactic
namespace Go.Proofs.Ythmfjlphmamegaa
open Go.ChangeShapes Go.WideShapes Go.ChangeAt Go.RowKit
set_option linter.unusedVariables false

theorem own_below2 {W w1 : World} {base : Nat} {e : TypeId} {size : Nat} {v : Value} {n : Nat} {xs : List Value} (h : W.ownsRow base e size v n xs) {w : World} (hb : Below w.heap.size w W) (hbase : w.heap.size ≤ base) (hg : W.grownBy w1 v.ownBlock) : Below w.heap.size w w1 := by
  refine hb.grown hg hb.size ?_
  intro k hk
  have := h.lt k hk
  omega
theorem grown_blk {W w1 : World} {base : Nat} {e : TypeId} {size : Nat} {v : Value} {n : Nat} {xs : List Value} (h : W.ownsRow base e size v n xs) {b : Nat} {o : Obj} (hb : W.heap[b]? = some o) (hlt : b < base) (hg : W.grownBy w1 v.ownBlock) : w1.heap[b]? = some o := by
  rw [hg.block b (blk_lt hb) ?_]
  · exact hb
  · intro hh
    have := h.lt b hh.symm
    omega

set_option maxHeartbeats 8000000 in
theorem pairs_calls (a : Option Addr) (cap : Nat) (l : List Slt) (a' : Option Addr) (n' c' : Nat) (rule station rest : Int) (w : World) (hn : l.length ≤ cap) (hcap : cap ≤ 9223372036854775807) (h20 : l.length ≤ 30) (hs : SlotsIn w a l) (ht : Tms l) (hr0 : 0 ≤ rest) (hr1 : rest ≤ 1000) (hst : -1 ≤ station) :
    Calls Try.prog 49 #[Pv a l.length cap a' n' c', .int .i64 rule, .int .i64 station, .int .i64 rest] w (ListPost w (nearL l rule station rest)) := by
  obtain ⟨i0, hi, hz0, hz1, hz2⟩ := info_parts infoB
  have HI := Lib.hid (And.intro hi (And.intro hz0 (And.intro hz1 hz2)))
  have HS := Lib.hid hs
  have HT := Lib.hid ht
  clear hs ht hi hz0 hz1 hz2
  go_enter Try.func49, Try.ntmps49
  go_wp2_with fail
  go_loopw [9, 10] (fun v i wr => ∃ k : Nat, k ≤ l.length ∧ i = .int .i64 k ∧ Hid (Below w.heap.size w wr) ∧ Hid (wr.heap[w.heap.size]? = some (.cells #[.slice a l.length cap, .slice a' n' c'] 25)) ∧ Hid (wr.ownsRow (w.heap.size + 1) 68 3 v (nearTo l rule station rest k).length (bre (nearTo l rule station rest k)))) (fun _ i _ => l.length - (intOf i).toNat)
  case atStart => exact ⟨0, by omega, rfl, Lib.hid (Bal (Below.refl _ _) _), Lib.hid (blk_new w _), Lib.hid ⟨rfl, .inl ⟨rfl, rfl⟩⟩⟩
  case round =>
    obtain ⟨k, hk, rfl, HB, HX, HO⟩ := hrel
    have x0 : wr.cell? ⟨w.heap.size, 0, none⟩ = some (.slice a l.length cap) := blk_cell HX.out 0 _ rfl
    by_cases hlt : k < l.length
    · have hN1 := nearTo_len l rule station rest k
      have hk30 : k * l.length ≤ 30 * 30 := Nat.mul_le_mul (by omega) h20
      have HNS := Lib.hid (nearTo_succ l rule station rest k)
      go_wp2_with fail
      go_loopw [9, 11] (fun v i wr => ∃ m : Nat, k < m ∧ m ≤ l.length ∧ i = .int .i64 m ∧ Hid (Below w.heap.size w wr) ∧ Hid (wr.heap[w.heap.size]? = some (.cells #[.slice a l.length cap, .slice a' n' c'] 25)) ∧ Hid (wr.ownsRow (w.heap.size + 1) 68 3 v (nearTo l rule station rest k ++ rowTo l rule station rest k m).length (bre (nearTo l rule station rest k ++ rowTo l rule station rest k m)))) (fun _ i _ => l.length - (intOf i).toNat)
      case atStart => exact ⟨k + 1, by omega, by omega, by go_num, HB, HX, Lib.hid (by rw [rowTo_start, List.append_nil]; exact HO.out)⟩
      case round =>
        obtain ⟨m, hkm, hm, rfl, HB2, HX2, HO2⟩ := hrel
        clear x0
        have x0 : wr.cell? ⟨w.heap.size, 0, none⟩ = some (.slice a l.length cap) := blk_cell HX2.out 0 _ rfl
        have xl := blk_lt HX2.out
        by_cases hml : m < l.length
        · obtain ⟨b, off, rfl, hl, hc⟩ := (HS.out.next HB2.out) k hlt
          obtain ⟨b2, off2, e2, hl2, hc2⟩ := (HS.out.next HB2.out) m hml
          simp only [Option.some.injEq, Addr.mk.injEq] at e2
          obtain ⟨rfl, rfl, _⟩ := e2
          obtain ⟨c0, c1, c2, c3⟩ := hc
          obtain ⟨m0, m1, m2, m3⟩ := hc2
          have hR1 := rowTo_len l rule station rest k m
          have HP := Lib.hid (rowTo_succ l rule station rest k m hkm)
          have HPB : Hid (pairB l station rest k m = ((l[k].st == l[m].st) && ((decide (station < 0) || (l[k].st == station)) && meetB l[k] l[m] rest))) := Lib.hid (by unfold pairB; rw [getD_eq hlt, getD_eq hml])
          generalize pairB l station rest k m = pb at *
          have tk := HT.out k hlt
          have tm := HT.out m hml
          have km0 : (0 : Int) ≤ (k : Int) := by omega
          have km1 : (k : Int) < (l.length : Int) := by omega
          have km2 : (0 : Int) ≤ (m : Int) := by omega
          have km3 : (m : Int) < (l.length : Int) := by omega
          have hs0 : Hid (decide (station < 0) = (station == -1)) := Lib.hid (by rw [Bool.eq_iff_iff]; simp; omega)
          have sc : (l[k].st == l[m].st) = false ∨ ((l[k].st == l[m].st) = true ∧ (station == -1) = false ∧ (l[k].st == station) = false) ∨ ((l[k].st == l[m].st) = true ∧ (station == -1) = false ∧ (l[k].st == station) = true) ∨ ((l[k].st == l[m].st) = true ∧ (station == -1) = true) := by
            cases q1 : (l[k].st == l[m].st) <;> cases q2 : (station == -1) <;> cases q3 : (l[k].st == station) <;> simp
          rcases sc with s1 | ⟨s1, s2, s3⟩ | ⟨s1, s2, s3⟩ | ⟨s1, s2⟩
          · have Fp : Hid (pb = false) := Lib.hid (by rw [HPB.out, s1]; rfl)
            go_wp2_with fail
            go_region
            all_goals
              go_wp2_with fail
              refine ⟨⟨m + 1, by omega, by omega, by go_num, Lib.hid (by first | exact (Bal (Bal HB2.out _) _).drew | exact Bal (Bal HB2.out _) _), Lib.hid (blk_alloc (blk_alloc HX2.out _) _), Lib.hid ?_⟩, by simp [intOf]; omega⟩
              rw [HP.out, Fp.out, if_neg (by decide), List.append_nil]
              exact (HO2.out.alloc _).alloc _
          · have Fp : Hid (pb = false) := Lib.hid (by rw [HPB.out, hs0.out, s2, s3]; simp)
            go_wp2_with fail
            go_region
            all_goals
              go_wp2_with fail
              refine ⟨⟨m + 1, by omega, by omega, by go_num, Lib.hid (by first | exact (Bal (Bal HB2.out _) _).drew | exact Bal (Bal HB2.out _) _), Lib.hid (blk_alloc (blk_alloc HX2.out _) _), Lib.hid ?_⟩, by simp [intOf]; omega⟩
              rw [HP.out, Fp.out, if_neg (by decide), List.append_nil]
              exact (HO2.out.alloc _).alloc _
          · skip
            cases hmb : meetB l[k] l[m] rest
            · have Fp : Hid (pb = false) := Lib.hid (by rw [HPB.out, hmb]; simp)
              go_wp2_with fail
              go_region
              all_goals
                go_wp2_with fail
                refine (refNear_calls l[k] l[m] rest tk tm hr0 hr1 _).mono ?_
                rintro e w1 ⟨rfl, hb1⟩
                have HB3 : Hid (Below w.heap.size w w1) := Lib.hid (Bgo (by first | exact (Bal (Bal HB2.out _) _).drew | exact Bal (Bal HB2.out _) _) hb1)
                have HO3 := Lib.hid (own_next hb1 ((HO2.out.alloc _).alloc _))
                have HX3 := Lib.hid (blk_next hb1 (blk_alloc (blk_alloc HX2.out _) _))
                clear hb1
                go_wp2_with fail
                refine ⟨⟨m + 1, by omega, by omega, by go_num, HB3, HX3, Lib.hid ?_⟩, by simp [intOf]; omega⟩
                rw [HP.out, Fp.out, if_neg (by decide), List.append_nil]
                exact HO3.out
            · have Fp : Hid (pb = true) := Lib.hid (by rw [HPB.out, hmb, hs0.out]; rw [s1, s3]; simp)
              go_wp2_with fail
              go_region
              all_goals
                go_wp2_with fail
                refine (refNear_calls l[k] l[m] rest tk tm hr0 hr1 _).mono ?_
                rintro e w1 ⟨rfl, hb1⟩
                have HB3 : Hid (Below w.heap.size w w1) := Lib.hid (Bgo (by first | exact (Bal (Bal HB2.out _) _).drew | exact Bal (Bal HB2.out _) _) hb1)
                have HO3 := Lib.hid (own_next hb1 ((HO2.out.alloc _).alloc _))
                have HX3 := Lib.hid (blk_next hb1 (blk_alloc (blk_alloc HX2.out _) _))
                have hlen : (nearTo l rule station rest k ++ rowTo l rule station rest k m).length ≤ 930 := by rw [List.length_append]; omega
                have h63 : (nearTo l rule station rest k ++ rowTo l rule station rest k m).length + 1 ≤ maxLen := by unfold maxLen; omega
                have h64 : ((nearTo l rule station rest k ++ rowTo l rule station rest k m).length + 1) * 24 ≤ 140737488355328 := by omega
                have hb5 : w.heap.size + 1 ≤ w1.heap.size := blk_lt HX3.out
                have H5 := Lib.hid hb5
                have H63 := Lib.hid h63
                have H64 := Lib.hid h64
                clear h63 h64 hlen hb1 hb5
                go_wp2_with (at_builtin; refine wpList_append_own _ rfl _ _ 27 rfl (w.heap.size + 1) 68 i0 (.agg #[.int .i64 0, .int .i64 0, .int .i64 0]) 3 24 Try.underlying27 HI.out.1 HI.out.2.1 HI.out.2.2.1 HI.out.2.2.2 rfl (by decide) _ _ _ rfl (HO3.out.alloc _) ⟨w1.heap.size, 0, none⟩ 1 1 [.int .i64 rule, .int .i64 (k : Int), .int .i64 (m : Int)] rfl rfl (new3 w1 _ _ _ _) (one3 _ _ _) H63.out H64.out (Nat.le_trans H5.out (Below.alloc (Below.refl 0 w1) (Nat.zero_le _) _).size) ?_; intro v2 w2 hown2 hgrow2 hnil2)
                have HB4 : Hid (Below w.heap.size w w2) := Lib.hid (own_below2 (HO3.out.alloc _) (Bal HB3.out _) (by omega) hgrow2)
                have HX4 := Lib.hid (grown_blk (HO3.out.alloc _) (blk_alloc HX3.out _) (by omega) hgrow2)
                have HO4 := Lib.hid hown2
                clear hown2 hgrow2 hnil2
                go_wp2_with fail
                refine ⟨⟨m + 1, by omega, by omega, by go_num, HB4, HX4, Lib.hid ?_⟩, by simp [intOf]; omega⟩
                rw [HP.out, Fp.out, if_pos rfl, ← List.append_assoc, bre_append]
                have := HO4.out
                simpa [Nat.add_assoc, bre] using this
          · skip
            cases hmb : meetB l[k] l[m] rest
            · have Fp : Hid (pb = false) := Lib.hid (by rw [HPB.out, hmb]; simp)
              go_wp2_with fail
              go_region
              all_goals
                go_wp2_with fail
                refine (refNear_calls l[k] l[m] rest tk tm hr0 hr1 _).mono ?_
                rintro e w1 ⟨rfl, hb1⟩
                have HB3 : Hid (Below w.heap.size w w1) := Lib.hid (Bgo (by first | exact (Bal (Bal HB2.out _) _).drew | exact Bal (Bal HB2.out _) _) hb1)
                have HO3 := Lib.hid (own_next hb1 ((HO2.out.alloc _).alloc _))
                have HX3 := Lib.hid (blk_next hb1 (blk_alloc (blk_alloc HX2.out _) _))
                clear hb1
                go_wp2_with fail
                refine ⟨⟨m + 1, by omega, by omega, by go_num, HB3, HX3, Lib.hid ?_⟩, by simp [intOf]; omega⟩
                rw [HP.out, Fp.out, if_neg (by decide), List.append_nil]
                exact HO3.out
            · have Fp : Hid (pb = true) := Lib.hid (by rw [HPB.out, hmb, hs0.out]; rw [s1, s2]; simp)
              go_wp2_with fail
              go_region
              all_goals
                go_wp2_with fail
                refine (refNear_calls l[k] l[m] rest tk tm hr0 hr1 _).mono ?_
                rintro e w1 ⟨rfl, hb1⟩
                have HB3 : Hid (Below w.heap.size w w1) := Lib.hid (Bgo (by first | exact (Bal (Bal HB2.out _) _).drew | exact Bal (Bal HB2.out _) _) hb1)
                have HO3 := Lib.hid (own_next hb1 ((HO2.out.alloc _).alloc _))
                have HX3 := Lib.hid (blk_next hb1 (blk_alloc (blk_alloc HX2.out _) _))
                have hlen : (nearTo l rule station rest k ++ rowTo l rule station rest k m).length ≤ 930 := by rw [List.length_append]; omega
                have h63 : (nearTo l rule station rest k ++ rowTo l rule station rest k m).length + 1 ≤ maxLen := by unfold maxLen; omega
                have h64 : ((nearTo l rule station rest k ++ rowTo l rule station rest k m).length + 1) * 24 ≤ 140737488355328 := by omega
                have hb5 : w.heap.size + 1 ≤ w1.heap.size := blk_lt HX3.out
                have H5 := Lib.hid hb5
                have H63 := Lib.hid h63
                have H64 := Lib.hid h64
                clear h63 h64 hlen hb1 hb5
                go_wp2_with (at_builtin; refine wpList_append_own _ rfl _ _ 27 rfl (w.heap.size + 1) 68 i0 (.agg #[.int .i64 0, .int .i64 0, .int .i64 0]) 3 24 Try.underlying27 HI.out.1 HI.out.2.1 HI.out.2.2.1 HI.out.2.2.2 rfl (by decide) _ _ _ rfl (HO3.out.alloc _) ⟨w1.heap.size, 0, none⟩ 1 1 [.int .i64 rule, .int .i64 (k : Int), .int .i64 (m : Int)] rfl rfl (new3 w1 _ _ _ _) (one3 _ _ _) H63.out H64.out (Nat.le_trans H5.out (Below.alloc (Below.refl 0 w1) (Nat.zero_le _) _).size) ?_; intro v2 w2 hown2 hgrow2 hnil2)
                have HB4 : Hid (Below w.heap.size w w2) := Lib.hid (own_below2 (HO3.out.alloc _) (Bal HB3.out _) (by omega) hgrow2)
                have HX4 := Lib.hid (grown_blk (HO3.out.alloc _) (blk_alloc HX3.out _) (by omega) hgrow2)
                have HO4 := Lib.hid hown2
                clear hown2 hgrow2 hnil2
                go_wp2_with fail
                refine ⟨⟨m + 1, by omega, by omega, by go_num, HB4, HX4, Lib.hid ?_⟩, by simp [intOf]; omega⟩
                rw [HP.out, Fp.out, if_pos rfl, ← List.append_assoc, bre_append]
                have := HO4.out
                simpa [Nat.add_assoc, bre] using this
        · obtain rfl : m = l.length := by omega
          go_wp2_with fail
          refine ⟨⟨k + 1, by omega, by go_num, HB2, HX2, Lib.hid ?_⟩, by simp [intOf]; omega⟩
          rw [HNS.out]
          exact HO2.out
    · obtain rfl : k = l.length := by omega
      go_wp2_with fail
      go_ret
      exact ⟨_, rfl, HO.out.mono (by omega), HB.out⟩
end Go.Proofs.Ythmfjlphmamegaa
