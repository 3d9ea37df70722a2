/- Contracts of layer 43: breaches by two slots of a station, of the program. -/
import Derived.Test.YthmfjlphmamegaaPlp
namespace Go.Proofs.Ythmfjlphmamegaa
open Go.ChangeShapes Go.WideShapes Go.ChangeAt Go.RowKit
set_option linter.unusedVariables false

theorem own_next {W w1 : World} (hb : Below W.heap.size W w1) {base : Nat} {e : TypeId} {size : Nat} {v : Value} {n : Nat} {xs : List Value} (h : W.ownsRow base e size v n xs) : w1.ownsRow base e size v n xs := by
  obtain ⟨h1, h2 | ⟨g, cap, cur, e1, e2, e3, e4⟩⟩ := h
  · exact ⟨h1, .inl h2⟩
  · exact ⟨h1, .inr ⟨g, cap, cur, e1, e2, blk_next hb e3, e4⟩⟩
theorem new3 (w : World) (x y z : Value) (t : TypeId) : ∀ (j : Nat) (u : Value), [x, y, z][j]? = some u → (w.alloc (.cells #[x, y, z] t)).cell? ((⟨w.heap.size, 0, none⟩ : Addr).add j) = some u := by
  intro j u h
  have e : (⟨w.heap.size, 0, none⟩ : Addr).add j = ⟨w.heap.size, j, none⟩ := by simp [Addr.add]; intro h; exact h.symm
  rw [e]
  exact blk_cell (blk_new w _) j u (by simpa using h)
theorem one3 (a b c : Int) : ∀ u ∈ [Value.int .i64 a, Value.int .i64 b, Value.int .i64 c], u.oneCell' = true := by
  intro u hu
  simp at hu
  rcases hu with rfl | rfl | rfl <;> rfl
theorem own_below {W w1 : World} {base : Nat} {e : TypeId} {size : Nat} {v : Value} {n : Nat} {xs : List Value} (h : W.ownsRow base e size v n xs) {w : World} (hb : Below w.heap.size w W) (hbase : base = w.heap.size) (hg : W.grownBy w1 v.ownBlock) : Below w.heap.size w w1 := by
  refine hb.grown hg hb.size ?_
  intro k hk
  have := h.lt k hk
  omega

set_option maxHeartbeats 8000000 in
theorem near_calls (a : Option Addr) (cap : Nat) (l : List Slt) (rule station rest : Int) (w : World) (hn : l.length ≤ cap) (hcap : cap ≤ 9223372036854775807) (h20 : l.length ≤ 30) (hs : SlotsIn w a l) (ht : Tms l) (hr0 : 0 ≤ rest) (hr1 : rest ≤ 1000) :
    Calls Try.prog 48 #[.slice a l.length cap, .int .i64 rule, .int .i64 station, .int .i64 rest] w (ListPost w (nearL l rule station rest)) := by
  obtain ⟨i0, hi, hz0, hz1, hz2⟩ := info_parts infoB
  have HI := Lib.hid (And.intro hi (And.intro hz0 (And.intro hz1 hz2)))
  have HS := Lib.hid hs
  have HT := Lib.hid ht
  clear hs ht hi hz0 hz1 hz2
  go_enter Try.func48, Try.ntmps48
  go_wp2_with fail
  go_loopw [9, 14] (fun v i wr => ∃ k : Nat, k ≤ l.length ∧ i = .int .i64 k ∧ Hid (Below w.heap.size w wr) ∧ Hid (wr.ownsRow w.heap.size 68 3 v (nearTo l rule station rest k).length (bre (nearTo l rule station rest k)))) (fun _ i _ => l.length - (intOf i).toNat)
  case atStart => exact ⟨0, by omega, rfl, Lib.hid (Below.refl _ _), Lib.hid ⟨rfl, .inl ⟨rfl, rfl⟩⟩⟩
  case round =>
    rename_i v0 _
    obtain ⟨k, hk, rfl, HB, HO⟩ := hrel
    by_cases hlt : k < l.length
    · have hN1 := nearTo_len l rule station rest k
      have hk30 : k * l.length ≤ 30 * 30 := Nat.mul_le_mul (by omega) h20
      have HNS := Lib.hid (nearTo_succ l rule station rest k)
      go_wp2_with fail
      go_loopw [9, 11] (fun v i wr => ∃ m : Nat, k < m ∧ m ≤ l.length ∧ i = .int .i64 m ∧ Hid (Below w.heap.size w wr) ∧ Hid (wr.ownsRow w.heap.size 68 3 v (nearTo l rule station rest k ++ rowTo l rule station rest k m).length (bre (nearTo l rule station rest k ++ rowTo l rule station rest k m)))) (fun _ i _ => l.length - (intOf i).toNat)
      case atStart => exact ⟨k + 1, by omega, by omega, by go_num, HB, Lib.hid (by rw [rowTo_start, List.append_nil]; exact HO.out)⟩
      case round =>
        rename_i v1 _
        obtain ⟨m, hkm, hm, rfl, HB2, HO2⟩ := hrel
        by_cases hml : m < l.length
        · obtain ⟨b, off, rfl, hl, hc⟩ := (HS.out.next HB2.out) k hlt
          obtain ⟨b2, off2, e2, hl2, hc2⟩ := (HS.out.next HB2.out) m hml
          simp only [Option.some.injEq, Addr.mk.injEq] at e2
          obtain ⟨rfl, rfl, _⟩ := e2
          obtain ⟨c0, c1, c2, c3⟩ := hc
          obtain ⟨m0, m1, m2, m3⟩ := hc2
          have hR1 := rowTo_len l rule station rest k m
          have HP := Lib.hid (rowTo_succ l rule station rest k m hkm)
          have HPB : Hid (pairB l station rest k m = ((l[k].st == l[m].st) && ((decide (station < 0) || (l[k].st == station)) && meetB l[k] l[m] rest))) := Lib.hid (by unfold pairB; rw [getD_eq hlt, getD_eq hml])
          generalize pairB l station rest k m = pb at *
          have tk := HT.out k hlt
          have tm := HT.out m hml
          have km0 : (0 : Int) ≤ (k : Int) := by omega
          have km1 : (k : Int) < (l.length : Int) := by omega
          have km2 : (0 : Int) ≤ (m : Int) := by omega
          have km3 : (m : Int) < (l.length : Int) := by omega
          have sc : (l[k].st != l[m].st) = true ∨ ((l[k].st != l[m].st) = false ∧ decide (0 ≤ station) = true ∧ (l[k].st != station) = true) ∨ ((l[k].st != l[m].st) = false ∧ decide (0 ≤ station) = true ∧ (l[k].st != station) = false) ∨ ((l[k].st != l[m].st) = false ∧ decide (0 ≤ station) = false) := by
            cases q1 : (l[k].st != l[m].st) <;> cases q2 : decide (0 ≤ station) <;> cases q3 : (l[k].st != station) <;> simp
          rcases sc with s1 | ⟨s1, s2, s3⟩ | ⟨s1, s2, s3⟩ | ⟨s1, s2⟩
          · have Fp : Hid (pb = false) := Lib.hid (by rw [HPB.out]; simp at s1; simp [s1])
            go_wp2_with fail
            go_quiet (fail)
            go_wp2_with fail
            refine ⟨⟨m + 1, by omega, by omega, by go_num, Lib.hid (below_drewN HB2.out _), Lib.hid ?_⟩, by simp [intOf]; omega⟩
            rw [HP.out, Fp.out, if_neg (by decide), List.append_nil]
            exact HO2.out
          · have Fp : Hid (pb = false) := Lib.hid (by rw [HPB.out]; simp at s2 s3; simp [s3]; omega)
            go_wp2_with fail
            go_quiet (fail)
            go_wp2_with fail
            refine ⟨⟨m + 1, by omega, by omega, by go_num, Lib.hid (below_drewN HB2.out _), Lib.hid ?_⟩, by simp [intOf]; omega⟩
            rw [HP.out, Fp.out, if_neg (by decide), List.append_nil]
            exact HO2.out
          · skip
            cases hmb : meetB l[k] l[m] rest
            · have Fp : Hid (pb = false) := Lib.hid (by rw [HPB.out, hmb]; simp)
              go_wp2_with fail
              go_quiet (fail)
              go_wp2_with fail
              go_region_with ((go_at_call 50; refine (meet_calls l[k] l[m] rest tk tm hr0 hr1 _).mono ?_; rintro e w1 ⟨rfl, hb1⟩))
              all_goals
                go_wp2_with fail
                refine ⟨⟨m + 1, by omega, by omega, by go_num, Lib.hid (by first | exact Bgo (below_drewN HB2.out _) hb1 | exact Bgo (below_drewN HB2.out _).drew hb1), Lib.hid ?_⟩, by simp [intOf]; omega⟩
                rw [HP.out, Fp.out, if_neg (by decide), List.append_nil]
                exact own_next hb1 HO2.out
            · have Fp : Hid (pb = true) := Lib.hid (by rw [HPB.out, hmb]; have a1 : l[k].st = l[m].st := by { simpa using s1 }; have a3 : l[k].st = station := by { simpa using s3 }; rw [← a1, a3]; simp)
              go_wp2_with fail
              go_quiet (fail)
              go_wp2_with fail
              go_region_with ((go_at_call 50; refine (meet_calls l[k] l[m] rest tk tm hr0 hr1 _).mono ?_; rintro e w1 ⟨rfl, hb1⟩))
              all_goals
                have HO3 := Lib.hid (own_next hb1 HO2.out)
                have HB3 : Hid (Below w.heap.size w w1) := Lib.hid (by first | exact Bgo (below_drewN HB2.out _) hb1 | exact Bgo (below_drewN HB2.out _).drew hb1)
                have hlen : (nearTo l rule station rest k ++ rowTo l rule station rest k m).length ≤ 930 := by rw [List.length_append]; omega
                clear hb1
                have h63 : (nearTo l rule station rest k ++ rowTo l rule station rest k m).length + 1 ≤ maxLen := by unfold maxLen; omega
                have h64 : ((nearTo l rule station rest k ++ rowTo l rule station rest k m).length + 1) * 24 ≤ 140737488355328 := by omega
                have H63 := Lib.hid h63
                have H64 := Lib.hid h64
                clear h63 h64 hlen
                go_wp2_with (at_builtin; refine wpList_append_own _ rfl _ _ 27 rfl w.heap.size 68 i0 (.agg #[.int .i64 0, .int .i64 0, .int .i64 0]) 3 24 Try.underlying27 HI.out.1 HI.out.2.1 HI.out.2.2.1 HI.out.2.2.2 rfl (by decide) _ _ _ rfl (HO3.out.alloc _) ⟨w1.heap.size, 0, none⟩ 1 1 [.int .i64 rule, .int .i64 (k : Int), .int .i64 (m : Int)] rfl rfl (new3 w1 _ _ _ _) (one3 _ _ _) H63.out H64.out (Bal HB3.out _).size ?_; intro v2 w2 hown2 hgrow2 hnil2)
                have HB4 : Hid (Below w.heap.size w w2) := Lib.hid (own_below (HO3.out.alloc _) (Bal HB3.out _) rfl hgrow2)
                have HO4 := Lib.hid hown2
                clear hown2 hgrow2 hnil2
                go_wp2_with fail
                refine ⟨⟨m + 1, by omega, by omega, by go_num, HB4, Lib.hid ?_⟩, by simp [intOf]; omega⟩
                rw [HP.out, Fp.out, if_pos rfl, ← List.append_assoc, bre_append]
                have := HO4.out
                simpa [Nat.add_assoc, bre] using this
          · skip
            cases hmb : meetB l[k] l[m] rest
            · have Fp : Hid (pb = false) := Lib.hid (by rw [HPB.out, hmb]; simp)
              go_wp2_with fail
              go_quiet (fail)
              go_wp2_with fail
              go_region_with ((go_at_call 50; refine (meet_calls l[k] l[m] rest tk tm hr0 hr1 _).mono ?_; rintro e w1 ⟨rfl, hb1⟩))
              all_goals
                go_wp2_with fail
                refine ⟨⟨m + 1, by omega, by omega, by go_num, Lib.hid (by first | exact Bgo (below_drewN HB2.out _) hb1 | exact Bgo (below_drewN HB2.out _).drew hb1), Lib.hid ?_⟩, by simp [intOf]; omega⟩
                rw [HP.out, Fp.out, if_neg (by decide), List.append_nil]
                exact own_next hb1 HO2.out
            · have Fp : Hid (pb = true) := Lib.hid (by rw [HPB.out, hmb]; simp at s1 s2; simp [s1, s2])
              go_wp2_with fail
              go_quiet (fail)
              go_wp2_with fail
              go_region_with ((go_at_call 50; refine (meet_calls l[k] l[m] rest tk tm hr0 hr1 _).mono ?_; rintro e w1 ⟨rfl, hb1⟩))
              all_goals
                have HO3 := Lib.hid (own_next hb1 HO2.out)
                have HB3 : Hid (Below w.heap.size w w1) := Lib.hid (by first | exact Bgo (below_drewN HB2.out _) hb1 | exact Bgo (below_drewN HB2.out _).drew hb1)
                have hlen : (nearTo l rule station rest k ++ rowTo l rule station rest k m).length ≤ 930 := by rw [List.length_append]; omega
                clear hb1
                have h63 : (nearTo l rule station rest k ++ rowTo l rule station rest k m).length + 1 ≤ maxLen := by unfold maxLen; omega
                have h64 : ((nearTo l rule station rest k ++ rowTo l rule station rest k m).length + 1) * 24 ≤ 140737488355328 := by omega
                have H63 := Lib.hid h63
                have H64 := Lib.hid h64
                clear h63 h64 hlen
                go_wp2_with (at_builtin; refine wpList_append_own _ rfl _ _ 27 rfl w.heap.size 68 i0 (.agg #[.int .i64 0, .int .i64 0, .int .i64 0]) 3 24 Try.underlying27 HI.out.1 HI.out.2.1 HI.out.2.2.1 HI.out.2.2.2 rfl (by decide) _ _ _ rfl (HO3.out.alloc _) ⟨w1.heap.size, 0, none⟩ 1 1 [.int .i64 rule, .int .i64 (k : Int), .int .i64 (m : Int)] rfl rfl (new3 w1 _ _ _ _) (one3 _ _ _) H63.out H64.out (Bal HB3.out _).size ?_; intro v2 w2 hown2 hgrow2 hnil2)
                have HB4 : Hid (Below w.heap.size w w2) := Lib.hid (own_below (HO3.out.alloc _) (Bal HB3.out _) rfl hgrow2)
                have HO4 := Lib.hid hown2
                clear hown2 hgrow2 hnil2
                go_wp2_with fail
                refine ⟨⟨m + 1, by omega, by omega, by go_num, HB4, Lib.hid ?_⟩, by simp [intOf]; omega⟩
                rw [HP.out, Fp.out, if_pos rfl, ← List.append_assoc, bre_append]
                have := HO4.out
                simpa [Nat.add_assoc, bre] using this
        · obtain rfl : m = l.length := by omega
          go_wp2_with fail
          refine ⟨⟨k + 1, by omega, by go_num, HB2, Lib.hid ?_⟩, by simp [intOf]; omega⟩
          rw [HNS.out]
          exact HO2.out
    · obtain rfl : k = l.length := by omega
      go_wp2_with fail
      go_ret
      exact ⟨_, rfl, HO.out, HB.out⟩
end Go.Proofs.Ythmfjlphmamegaa
