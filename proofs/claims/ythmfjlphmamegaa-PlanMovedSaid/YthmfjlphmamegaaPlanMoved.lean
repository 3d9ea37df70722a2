/- For every input the law PlanMoved returns true and leaves its arguments as they were. -/
import Derived.Test.YthmfjlphmamegaaRows
import Derived.Test.YthmfjlphmamegaaPl9
import Derived.WalkKit
import Derived.ProofKit
import Derived.OpenShut
import Derived.ShutString
import Derived.ChangeOld
import Derived.Below
import Derived.Lib.SmallJoins
namespace Go.Proofs.Ythmfjlphmamegaa.planMoved
open Go.ChangeShapes Go.WideShapes Go.ChangeAt Go.RowKit Go.Joins
open Go.ChangeMaps (open_string shut_string)
set_option linter.unusedVariables false

theorem own : ownKnob Try.prog.godebug = none := by kernel_rfl
theorem laidOut : laidOutB Try.prog = true := by kernel_rfl
theorem only_set {a w : World} {row : Option Nat} (h : a.grownBy w row) {p : Addr} (hp : row = some p.block) (u : Value) : a.grownBy (w.setCell p u) row :=
  ⟨h.os, h.tape, h.output, by simpa [World.setCell] using h.size, fun i hi hne => (Below.heap_setCell w p u i (by rintro rfl; exact hne hp.symm)).trans (h.block i hi hne)⟩
theorem own_far {v v' : Value} {a b c d : Nat} (h : ∀ q, v.ownBlock = some q → a ≤ q ∧ q < b) (h' : ∀ q, v'.ownBlock = some q → c ≤ q ∧ q < d) (hbc : b ≤ c) : v.ownBlock = none ∨ v.ownBlock ≠ v'.ownBlock := by
  cases hv : v.ownBlock with
  | none => exact .inl rfl
  | some q =>
    refine .inr (fun hh => ?_)
    have h1 := h q hv
    have h2 := h' q hh.symm
    omega
attribute [local go_sem ↓] Go.wp_at_zero Go.wp_at_succ
set_option maxHeartbeats 16000000 in
set_option maxRecDepth 100000 in
theorem walk (a : Option Addr) (cap : Nat) (l : List Slt) (a' : Option Addr) (cap' : Nat) (rs : List Rul) (w : World) (hn : l.length ≤ cap) (hcap : cap ≤ 9223372036854775807) (hs : SlotsIn w a l)
    (hn' : rs.length ≤ cap') (hcap' : cap' ≤ 9223372036854775807) (hr : RulesIn w a' rs) (by' : Int) :
    Calls Try.prog 7 #[Pv a l.length cap a' rs.length cap', .int .i64 by'] w fun e w' => e = .returned (.bool true) ∧ Below w.heap.size w w' := by
  have HS := Lib.hid hs
  have HR := Lib.hid hr
  clear hs hr
  have K1 := Lib.hid (fun (W : World) (hW : Below w.heap.size w W) => great_calls a cap l a' cap' rs W hn hcap (HS.out.next hW) hn' hcap' (HR.out.next hW))
  have K2 := Lib.hid (fun (W : World) (hW : Below w.heap.size w W) => refCheck_calls a cap l a' cap' rs W hn hcap (HS.out.next hW) hn' hcap' (HR.out.next hW))
  have K3 := Lib.hid (fun (W : World) (hW : Below w.heap.size w W) (h30 : l.length ≤ 30) (h30x : rs.length ≤ 30) => twin_calls a cap l a' cap' rs W hn hcap (HS.out.next hW) hn' hcap' (HR.out.next hW) h30 h30x)
  have K4 := Lib.hid (fun (W : World) (hW : Below w.heap.size w W) => breachesX_calls a cap l a' cap' rs W hn hcap (HS.out.next hW) hn' hcap' (HR.out.next hW))
  go_enter Try.func7, Try.ntmps7
  go_wp2_with fail
  refine (alive_calls _).mono ?_
  rintro e w0 ⟨rfl, hb⟩
  have P0 : Hid (w0.heap[w.heap.size]? = some (.cells #[.slice a l.length cap, .slice a' rs.length cap'] 25)) := Lib.hid (blk_next hb (blk_new w _))
  have N0 : Hid (Below w.heap.size w w0) := Lib.hid (Bgo (Bal (Below.refl _ _) _) hb)
  clear hb
  have p0 : w0.cell? ⟨w.heap.size, 0, none⟩ = some (.slice a l.length cap) := blk_cell P0.out 0 _ rfl
  have p1 : w0.cell? ⟨w.heap.size, 1, none⟩ = some (.slice a' rs.length cap') := blk_cell P0.out 1 _ rfl
  have xl := blk_lt P0.out
  go_wp2_with fail
  clear p0 p1 xl
  refine (K1.out _ N0.out).mono ?_
  rintro e w1 ⟨g, rfl, hg, hb⟩
  have P1 : Hid (w1.heap[w.heap.size]? = some (.cells #[.slice a l.length cap, .slice a' rs.length cap'] 25)) := Lib.hid (blk_next hb P0.out)
  have N1 : Hid (Below w.heap.size w w1) := Lib.hid (Bgo N0.out hb)
  clear hb P0 N0 K1
  have p0 : w1.cell? ⟨w.heap.size, 0, none⟩ = some (.slice a l.length cap) := blk_cell P1.out 0 _ rfl
  have p1 : w1.cell? ⟨w.heap.size, 1, none⟩ = some (.slice a' rs.length cap') := blk_cell P1.out 1 _ rfl
  have xl := blk_lt P1.out
  cases g
  case true =>
    go_wp2_with fail
    go_ret
    exact ⟨rfl, N1.out⟩
  obtain ⟨h30, h30'⟩ := hg rfl
  clear hg
  go_wp2_with fail
  clear p0 p1 xl
  refine (K2.out _ N1.out).mono ?_
  rintro e w2 ⟨rfl, hb⟩
  have P2 : Hid (w2.heap[w.heap.size]? = some (.cells #[.slice a l.length cap, .slice a' rs.length cap'] 25)) := Lib.hid (blk_next hb P1.out)
  have N2 : Hid (Below w.heap.size w w2) := Lib.hid (Bgo N1.out hb)
  clear hb P1 N1 K2
  have p0 : w2.cell? ⟨w.heap.size, 0, none⟩ = some (.slice a l.length cap) := blk_cell P2.out 0 _ rfl
  have p1 : w2.cell? ⟨w.heap.size, 1, none⟩ = some (.slice a' rs.length cap') := blk_cell P2.out 1 _ rfl
  have xl := blk_lt P2.out
  by_cases hE : checkE l rs = 0
  case neg =>
    have hne : (checkE l rs != 0) = true := by simpa using hE
    go_wp2_with fail
    go_ret
    exact ⟨rfl, N2.out⟩
  have ok := okp_of hE
  have OK := Lib.hid ok
  have h20 := ok.ls
  have h20' := ok.rl
  rw [hE]
  have HE := Lib.hid hE
  have FB : Hid (brL l rs = allL l rs) := Lib.hid (by unfold brL; rw [if_pos hE])
  rw [hE] at K4
  clear hE ok
  by_cases hb1 : by' < 0
  · go_wp2_with fail
    go_ret
    exact ⟨rfl, N2.out⟩
  by_cases hb2 : 1000 < by'
  · go_wp2_with fail
    go_ret
    exact ⟨rfl, N2.out⟩
  go_wp2_with fail
  clear p0 p1 xl
  refine (K3.out _ N2.out h30 h30').mono ?_
  rintro e w3 ⟨v1, v2, rfl, o1, o2, hb⟩
  obtain ⟨A, c, rfl, y1, z1, _⟩ := Rd.of_own o1
  obtain ⟨B, d, rfl, y2, z2, _⟩ := Rd.of_own o2
  have P3 : Hid ((w3.alloc (.cells #[.slice A l.length c, .slice B rs.length d] 25)).heap[w.heap.size]? = some (.cells #[.slice a l.length cap, .slice a' rs.length cap'] 25)) := Lib.hid (blk_alloc (blk_next hb P2.out) _)
  have Q3 : Hid ((w3.alloc (.cells #[.slice A l.length c, .slice B rs.length d] 25)).heap[w3.heap.size]? = some (.cells #[.slice A l.length c, .slice B rs.length d] 25)) := Lib.hid (blk_new w3 _)
  have N3 : Hid (Below w.heap.size w (w3.alloc (.cells #[.slice A l.length c, .slice B rs.length d] 25))) := Lib.hid (Bal (Bgo N2.out hb) _)
  have S3 : Hid (OwnsS (w3.alloc (.cells #[.slice A l.length c, .slice B rs.length d] 25)) w2.heap.size A l.length c l) := Lib.hid (o1.alloc _)
  have R3 : Hid (OwnsR (w3.alloc (.cells #[.slice A l.length c, .slice B rs.length d] 25)) w2.heap.size B rs.length d rs) := Lib.hid (o2.alloc _)
  have LS : Hid (∀ q, (Value.slice A l.length c).ownBlock = some q → w2.heap.size ≤ q ∧ q < w3.heap.size) := Lib.hid (fun q h => o1.lt q h)
  have LR : Hid (∀ q, (Value.slice B rs.length d).ownBlock = some q → w2.heap.size ≤ q ∧ q < w3.heap.size) := Lib.hid (fun q h => o2.lt q h)
  have SR : Hid ((Value.slice B rs.length d).ownBlock = none ∨ (Value.slice B rs.length d).ownBlock ≠ (Value.slice A l.length c).ownBlock) := Lib.hid (own_own o1 o2 (by decide))
  have RS : Hid ((Value.slice A l.length c).ownBlock = none ∨ (Value.slice A l.length c).ownBlock ≠ (Value.slice B rs.length d).ownBlock) := Lib.hid (own_own o2 o1 (by decide))
  have u2 := blk_lt P2.out
  have u3 := hb.size
  clear hb o1 o2 P2 N2
  go_wp2_with fail
  generalize w3.alloc (.cells #[.slice A l.length c, .slice B rs.length d] 25) = W3 at *
  have x0 : W3.cell? ⟨w3.heap.size, 0, none⟩ = some (.slice A l.length c) := blk_cell Q3.out 0 _ rfl
  go_loopw [7] (fun i wr => ∃ k : Nat, k ≤ l.length ∧ i = .int .i64 k ∧ Hid (W3.grownBy wr (Value.slice A l.length c).ownBlock) ∧ Hid (OwnsS wr w2.heap.size A l.length c (upd (sh by') l k))) (fun i _ => l.length - (intOf i).toNat)
  case atStart => exact ⟨0, by omega, rfl, Lib.hid (World.grownBy.refl _ _), Lib.hid (by rw [upd_zero]; exact S3.out)⟩
  case round =>
    obtain ⟨k, hk, rfl, GR, OW⟩ := hrel
    clear x0
    have Q4 := Lib.hid (gblk GR.out Q3.out (fun h => by have := (LS.out _ h.symm).2; omega))
    have x0 : wr.cell? ⟨w3.heap.size, 0, none⟩ = some (.slice A l.length c) := blk_cell Q4.out 0 _ rfl
    by_cases hlt : k < l.length
    · have ow := OW.out
      rcases ow.2 with ⟨_, hbad⟩ | ⟨g, c', cur, hv, hgb, hg, _, _, _, _⟩
      · omega
      simp only [Value.slice.injEq, true_and] at hv
      obtain ⟨rfl, rfl⟩ := hv
      have hgl : g < wr.heap.size := blk_lt hg
      have LG := LS.out g rfl
      obtain ⟨t1, t2, t3, t4⟩ := OK.out.tms k hlt
      have hku : k < (upd (sh by') l k).length := by rw [upd_len]; exact hlt
      have cx : ∀ j v, j < 4 → (sl4 l[k])[j]? = some v → wr.cell? ⟨g, k * 4 + j, none⟩ = some v := by
        intro j v hj hv
        rw [ow.cellAt (k * 4 + j) (by omega)]
        unfold slc
        rw [fm_get sl4 4 sl4_len _ k j hku hj, upd_at (sh by') l k hlt]; exact hv
      have f2 : wr.cell? ⟨g, k * 4 + 2, none⟩ = some (.int .i64 l[k].fr) := cx 2 _ (by omega) rfl
      have f3 : wr.cell? ⟨g, k * 4 + 3, none⟩ = some (.int .i64 l[k].to) := cx 3 _ (by omega) rfl
      have q2 : wr.frozen? ⟨g, k * 4 + 2, none⟩ = false := ow.frozenAt _
      have q3 : wr.frozen? ⟨g, k * 4 + 3, none⟩ = false := ow.frozenAt _
      have km0 : (0 : Int) ≤ (k : Int) := by omega
      have km1 : (k : Int) < (l.length : Int) := by omega
      have dq : ¬ g = w3.heap.size := by omega
      have dq' : ¬ w3.heap.size = g := by omega
      have OW2 : Hid (OwnsS ((wr.setCell ⟨g, k * 4 + 2, none⟩ (.int .i64 (l[k].fr + by'))).setCell ⟨g, k * 4 + 3, none⟩ (.int .i64 (l[k].to + by'))) w2.heap.size (some ⟨g, 0, none⟩) l.length c (upd (sh by') l (k + 1))) := Lib.hid (by
        have := ((ow.stored (k * 4 + 2) (.int .i64 (l[k].fr + by'))).1.stored (k * 4 + 3) (.int .i64 (l[k].to + by'))).1
        unfold slc at this
        rw [fm_set sl4 4 sl4_len _ k 2 hku (by omega) _ {l[k] with fr := l[k].fr + by'} (by rw [upd_at (sh by') l k hlt]; rfl)] at this
        rw [fm_set sl4 4 sl4_len _ k 3 (by rw [List.length_set]; exact hku) (by omega) _ (sh by' l[k]) (by simp [sl4, sh])] at this
        rw [List.set_set, ← upd_succ (sh by') l k hlt] at this
        exact this)
      have GR2 := Lib.hid (only_set (only_set GR.out (p := ⟨g, k * 4 + 2, none⟩) rfl (.int .i64 (l[k].fr + by'))) (p := ⟨g, k * 4 + 3, none⟩) rfl (.int .i64 (l[k].to + by')))
      clear ow hg cx
      go_wp2_with fail
      exact ⟨⟨k + 1, by omega, by go_num, GR2, OW2⟩, by simp [intOf]; omega⟩
    · obtain rfl : k = l.length := by omega
      rw [upd_all] at OW
      have R4 : Hid (OwnsR wr w2.heap.size B rs.length d rs) := Lib.hid (R3.out.kept GR.out SR.out)
      have P4 : Hid (wr.heap[w.heap.size]? = some (.cells #[.slice a l.length cap, .slice a' rs.length cap'] 25)) := Lib.hid (gblk GR.out P3.out (fun h => by have := (LS.out _ h.symm).1; omega))
      have N4 : Hid (Below w.heap.size w wr) := Lib.hid (gbel GR.out N3.out (fun q h => by have := LS.out q h; omega))
      clear GR S3 R3 P3 N3 Q3
      obtain ⟨W4, rfl⟩ : ∃ W4 : World, W4 = wr := ⟨_, rfl⟩
      have x1 : W4.cell? ⟨w3.heap.size, 1, none⟩ = some (.slice B rs.length d) := blk_cell Q4.out 1 _ rfl
      go_wp2_with fail
      go_loopw [8] (fun i wr => ∃ k : Nat, k ≤ rs.length ∧ i = .int .i64 k ∧ Hid (W4.grownBy wr (Value.slice B rs.length d).ownBlock) ∧ Hid (OwnsR wr w2.heap.size B rs.length d (upd (shr by') rs k))) (fun i _ => rs.length - (intOf i).toNat)
      case atStart => exact ⟨0, by omega, rfl, Lib.hid (World.grownBy.refl _ _), Lib.hid (by rw [upd_zero]; exact R4.out)⟩
      case round =>
        obtain ⟨k, hk, rfl, GR, OR⟩ := hrel
        clear x0 x1
        have Q5 := Lib.hid (gblk GR.out Q4.out (fun h => by have := (LR.out _ h.symm).2; omega))
        have x0 : wr.cell? ⟨w3.heap.size, 0, none⟩ = some (.slice A l.length c) := blk_cell Q5.out 0 _ rfl
        have x1 : wr.cell? ⟨w3.heap.size, 1, none⟩ = some (.slice B rs.length d) := blk_cell Q5.out 1 _ rfl
        by_cases hlt : k < rs.length
        · have ow := OR.out
          rcases ow.2 with ⟨_, hbad⟩ | ⟨g, c', cur, hv, hgb, hg, _, _, _, _⟩
          · omega
          simp only [Value.slice.injEq, true_and] at hv
          obtain ⟨rfl, rfl⟩ := hv
          have hgl : g < wr.heap.size := blk_lt hg
          have LG := LR.out g rfl
          have hku : k < (upd (shr by') rs k).length := by rw [upd_len]; exact hlt
          have cx : ∀ j v, j < 6 → (rl6 rs[k])[j]? = some v → wr.cell? ⟨g, k * 6 + j, none⟩ = some v := by
            intro j v hj hv
            rw [ow.cellAt (k * 6 + j) (by omega)]
            unfold rlc
            rw [fm_get rl6 6 rl6_len _ k j hku hj, upd_at (shr by') rs k hlt]; exact hv
          have f0 : wr.cell? ⟨g, k * 6, none⟩ = some (.int .u8 rs[k].kind) := cx 0 _ (by omega) rfl
          have f3 : wr.cell? ⟨g, k * 6 + 3, none⟩ = some (.int .i64 rs[k].low) := cx 3 _ (by omega) rfl
          have f4 : wr.cell? ⟨g, k * 6 + 4, none⟩ = some (.int .i64 rs[k].high) := cx 4 _ (by omega) rfl
          have q3 : wr.frozen? ⟨g, k * 6 + 3, none⟩ = false := ow.frozenAt _
          have q4 : wr.frozen? ⟨g, k * 6 + 4, none⟩ = false := ow.frozenAt _
          have km0 : (0 : Int) ≤ (k : Int) := by omega
          have km1 : (k : Int) < (rs.length : Int) := by omega
          have dq : ¬ g = w3.heap.size := by omega
          have dq' : ¬ w3.heap.size = g := by omega
          have hru := OK.out.ru k hlt
          by_cases k1 : rs[k].kind = 1
          · obtain ⟨t1, t2, t3, t4⟩ := rule_one hru k1
            have kk1 : (rs[k].kind == 1) = true := by simpa using k1
            have kk5 : (rs[k].kind == 5) = false := by rw [k1]; rfl
            have OW2 : Hid (OwnsR ((wr.setCell ⟨g, k * 6 + 3, none⟩ (.int .i64 (rs[k].low + by'))).setCell ⟨g, k * 6 + 4, none⟩ (.int .i64 (rs[k].high + by'))) w2.heap.size (some ⟨g, 0, none⟩) rs.length d (upd (shr by') rs (k + 1))) := Lib.hid (by
              have := ((ow.stored (k * 6 + 3) (.int .i64 (rs[k].low + by'))).1.stored (k * 6 + 4) (.int .i64 (rs[k].high + by'))).1
              unfold rlc at this
              rw [fm_set rl6 6 rl6_len _ k 3 hku (by omega) _ {rs[k] with low := rs[k].low + by'} (by rw [upd_at (shr by') rs k hlt]; rfl)] at this
              rw [fm_set rl6 6 rl6_len _ k 4 (by rw [List.length_set]; exact hku) (by omega) _ (shr by' rs[k]) (by simp [rl6, shr, k1])] at this
              rw [List.set_set, ← upd_succ (shr by') rs k hlt] at this
              exact this)
            have GR2 := Lib.hid (only_set (only_set GR.out (p := ⟨g, k * 6 + 3, none⟩) rfl (.int .i64 (rs[k].low + by'))) (p := ⟨g, k * 6 + 4, none⟩) rfl (.int .i64 (rs[k].high + by')))
            have K1h := Lib.hid k1
            clear ow hg cx k1
            go_wp2_with fail
            exact ⟨⟨k + 1, by omega, by go_num, GR2, OW2⟩, by simp [intOf]; omega⟩
          have kk1 : (rs[k].kind == 1) = false := by simpa using k1
          by_cases k5 : rs[k].kind = 5
          · obtain ⟨_, _, t3, t4⟩ := rule_five hru k5
            have kk5 : (rs[k].kind == 5) = true := by simpa using k5
            have OW2 : Hid (OwnsR (wr.setCell ⟨g, k * 6 + 4, none⟩ (.int .i64 (rs[k].high + by'))) w2.heap.size (some ⟨g, 0, none⟩) rs.length d (upd (shr by') rs (k + 1))) := Lib.hid (by
              have := (ow.stored (k * 6 + 4) (.int .i64 (rs[k].high + by'))).1
              unfold rlc at this
              rw [fm_set rl6 6 rl6_len _ k 4 hku (by omega) _ (shr by' rs[k]) (by rw [upd_at (shr by') rs k hlt]; simp [rl6, shr, k5])] at this
              rw [← upd_succ (shr by') rs k hlt] at this
              exact this)
            have GR2 := Lib.hid (only_set GR.out (p := ⟨g, k * 6 + 4, none⟩) rfl (.int .i64 (rs[k].high + by')))
            clear ow hg cx k5 k1
            go_wp2_with fail
            exact ⟨⟨k + 1, by omega, by go_num, GR2, OW2⟩, by simp [intOf]; omega⟩
          · have kk5 : (rs[k].kind == 5) = false := by simpa using k5
            have OW2 : Hid (OwnsR wr w2.heap.size (some ⟨g, 0, none⟩) rs.length d (upd (shr by') rs (k + 1))) := Lib.hid (by
              have e : shr by' rs[k] = rs[k] := by unfold shr; rw [if_neg k1, if_neg k5]
              rw [upd_succ (shr by') rs k hlt, e, ← upd_at (shr by') rs k hlt, List.set_getElem_self]
              exact ow)
            clear ow hg cx k5 k1
            go_wp2_with fail
            exact ⟨⟨k + 1, by omega, by go_num, GR, OW2⟩, by simp [intOf]; omega⟩
        · obtain rfl : k = rs.length := by omega
          rw [upd_all] at OR
          have S5 : Hid (OwnsS wr w2.heap.size A l.length c (l.map (sh by'))) := Lib.hid (OW.out.kept GR.out RS.out)
          have P5 : Hid (wr.heap[w.heap.size]? = some (.cells #[.slice a l.length cap, .slice a' rs.length cap'] 25)) := Lib.hid (gblk GR.out P4.out (fun h => by have := (LR.out _ h.symm).1; omega))
          have N5 : Hid (Below w.heap.size w wr) := Lib.hid (gbel GR.out N4.out (fun q h => by have := LR.out q h; omega))
          clear GR OW P4 N4 Q4 R4
          go_wp2_with fail
          clear x0 x1
          refine (rckO (l := l.map (sh by')) (rs := rs.map (shr by')) (by simp) (by simp) S5.out OR.out).mono ?_
          rintro e w6 ⟨rfl, hb⟩
          have Q6 := Lib.hid (blk_next hb Q5.out)
          have S6 := Lib.hid (own_next hb S5.out)
          have R6 := Lib.hid (own_next hb OR.out)
          have P6 := Lib.hid (blk_next hb P5.out)
          have N6 : Hid (Below w.heap.size w w6) := Lib.hid (Bgo N5.out hb)
          clear hb Q5 S5 OR P5 N5
          by_cases hF : checkE (l.map (sh by')) (rs.map (shr by')) = 0
          case neg =>
            have hne : (checkE (l.map (sh by')) (rs.map (shr by')) != 0) = true := by simpa using hF
            go_wp2_with fail
            go_ret
            exact ⟨rfl, N6.out⟩
          have FQ : Hid (brL (l.map (sh by')) (rs.map (shr by')) = brL l rs) := Lib.hid (by unfold brL; rw [if_pos hF, if_pos HE.out, all_sh])
          have HF := Lib.hid hF
          rw [hF]
          clear hF
          have p0 : w6.cell? ⟨w.heap.size, 0, none⟩ = some (.slice a l.length cap) := blk_cell P6.out 0 _ rfl
          have p1 : w6.cell? ⟨w.heap.size, 1, none⟩ = some (.slice a' rs.length cap') := blk_cell P6.out 1 _ rfl
          go_wp2_with fail
          clear p0 p1
          refine (K4.out _ N6.out).mono ?_
          rintro e w7 ⟨v7, rfl, o7, hb⟩
          obtain ⟨A7, c7, rfl, g7, f7, _⟩ := Rd.of_own o7
          have B7 := Lib.hid o7
          have Q7 := Lib.hid (blk_next hb Q6.out)
          have S7 := Lib.hid (own_next hb S6.out)
          have R7 := Lib.hid (own_next hb R6.out)
          have N7 : Hid (Below w.heap.size w w7) := Lib.hid (Bgo N6.out hb)
          clear hb Q6 S6 R6 P6 N6 o7
          have x0 : w7.cell? ⟨w3.heap.size, 0, none⟩ = some (.slice A l.length c) := blk_cell Q7.out 0 _ rfl
          have x1 : w7.cell? ⟨w3.heap.size, 1, none⟩ = some (.slice B rs.length d) := blk_cell Q7.out 1 _ rfl
          go_wp2_with fail
          clear x0 x1
          refine (brO (l := l.map (sh by')) (rs := rs.map (shr by')) (by simp) (by simp) S7.out R7.out).mono ?_
          rw [FQ.out, HF.out]
          rintro e w8 ⟨v8, rfl, o8, hb⟩
          obtain ⟨A8, c8, rfl, g8, f8, _⟩ := Rd.of_own o8
          have C8 := Lib.hid o8
          have B8 := Lib.hid (own_next hb B7.out)
          have N8 : Hid (Below w.heap.size w w8) := Lib.hid (Bgo N7.out hb)
          clear hb o8 B7 N7 Q7 S7 R7
          go_wp2_with fail
          refine (sameBreaches_calls A7 A8 c7 c8 (brL l rs) _ g7 f7 g8 f8 (bres_rd (own_rd B8.out)) (bres_rd (own_rd C8.out))).mono ?_
          rintro e w9 ⟨rfl, n9, rfl⟩
          go_wp2_with fail
          go_ret
          exact ⟨rfl, below_drewN N8.out _⟩

set_option maxRecDepth 100000 in
theorem lifted (os : Os) (started : os.Started) (H : Type) (enc : TypeId × Value → H) :
    ReturnsInHanded {} Try.checked os 7 .any (Rows.planMovedSpec.pre6 enc Try.prog Try.f7 Rows.planMovedRow.domain false) (Rows.planMovedSpec.post enc Try.prog Try.f7 false true false false) := by
  refine returnsInHanded_of_change (C := Try.checked) own started (by kernel_rfl) Try.func7
    (ChangeSpec.witness6 (enc := enc) (C := Try.checked) false ⟨#[], #[.agg #[.slice none 0 0, .slice none 0 0], .int .i64 0], []⟩ 8 (by kernel_rfl) (by kernel_rfl) (by kernel_rfl) (by kernel_rfl)) ?_
  intro W base args ds gs before hval0 hW hcnd _
  have hval : ∀ (j : Nat) t v, Try.f7.params[j]? = some t → args[j]? = some v → Value.okWide Try.prog W .any base t v := hval0
  have hW' := hW
  obtain ⟨p, q, hA0, hV, rfl, hfz, hnd⟩ := hW
  have hA : DataW.TrodAll enc Try.prog W 0 (fun _ => true) true Try.f7.params.toList args.toList ds p := hA0
  rw [Try.params7] at hA hval
  obtain ⟨v0, vs0, d0, ds0, p0, q0, hargs, rfl, rfl, h0, r0⟩ := trodAll_cons hA
  obtain ⟨v1, vs1, d1, ds1, p1, q1, rfl, rfl, rfl, h1, r1⟩ := trodAll_cons r0
  obtain ⟨rfl, rfl, rfl⟩ := trodAll_nil r1
  obtain rfl : args = #[v0, v1] := by cases args; simp_all
  obtain ⟨rfl, rfl⟩ := trodVars_none hV
  have k0 := h0
  have lt0 : ∀ x ∈ p0, x.block < W.heap.size := by obtain ⟨m, hm⟩ := k0; exact DataW.trod_lt m _ _ _ hm
  obtain ⟨c0_0, c1_0, y0_0, y1_0, m0, rfl, _, _, t0_0, t1_0⟩ := open_agg2 Try.underlying25 (by kernel_rfl) (show Try.prog.cellsOf 25 = 2 by kernel_rfl) (hval 0 25 v0 rfl rfl) h0
  obtain ⟨a, l, cap, e0_0, hn, hcap, hs⟩ := open_slots t0_0
  obtain ⟨a', rs, cap', e1_0, hn', hcap', hr⟩ := open_rules t1_0
  simp only [List.cons.injEq, and_true] at e0_0 e1_0
  subst e0_0 e1_0
  have k1 := h1
  have lt1 : ∀ x ∈ p1, x.block < W.heap.size := by obtain ⟨m, hm⟩ := k1; exact DataW.trod_lt m _ _ _ hm
  obtain ⟨by', rfl, _, _, wby'⟩ := open_int Try.underlying3 (hval 1 3 v1 rfl rfl) h1
  clear hA0 hval0
  refine (walk a cap l a' cap' rs W hn hcap hs hn' hcap' hr by').mono fun e W' ⟨he, bel⟩ => ?_
  subst he
  exact ⟨_, rfl, _, _, _, [], _, [], hW', trodAll_mk1 (shut_bool Try.underlying4 _), (trodAll_cons_mk (Below.trod laidOut (by kernel_rfl) (of_decide_eq_true (by kernel_rfl)) k0 bel lt0) (trodAll_cons_mk (Below.trod laidOut (by kernel_rfl) (of_decide_eq_true (by kernel_rfl)) k1 bel lt1) trodAll_mk0)), rfl, bel.frame _, fun h => by cases h⟩

theorem over : Rows.planMovedRow.holds Try.pinned (OpenSpec.ofChange Rows.planMovedSpec) :=
  OpenClaim.holds_of_wide 7 Try.f7 rfl rfl rfl rfl rfl rfl rfl ⟨rfl, rfl, rfl, rfl, rfl⟩ rfl rfl rfl rfl rfl (by kernel_rfl) Try.func7 (by kernel_rfl)
    (of_decide_eq_true (by kernel_rfl)) (by unfold Func.isWrapper; first | (rw [if_pos (by decide +kernel)]; kernel_rfl) | (rw [if_neg (by decide +kernel)]; exact ⟨rfl, rfl⟩))
    (fun os started H enc _ => lifted os started H enc)

theorem proved : Rows.PlanMovedSaid := over
#print axioms proved
end Go.Proofs.Ythmfjlphmamegaa.planMoved
