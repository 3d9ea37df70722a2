/- Contracts of layer 43: whether a plan obeys. -/
import Derived.Test.YthmfjlphmamegaaPlf
namespace Go.Proofs.Ythmfjlphmamegaa
open Go.ChangeShapes Go.WideShapes Go.ChangeAt Go.RowKit
set_option linter.unusedVariables false
attribute [local go_sem ↓] Go.wp_at_zero Go.wp_at_succ

def obB (rs : List Rul) (x : Bre) : Bool := decide (0 ≤ x.1) && !(rs.getD x.1.toNat r0).why.toList.isEmpty
theorem obB_neg (rs : List Rul) (x : Bre) (h : x.1 = -1) : obB rs x = false := by unfold obB; rw [h]; rfl
theorem obB_pos {rs : List Rul} {x : Bre} {j : Nat} (hj : j < rs.length) (h : x.1 = (j : Int)) : obB rs x = !rs[j].why.toList.isEmpty := by
  unfold obB; rw [h, decide_eq_true (by omega), Int.toNat_natCast, getR_eq hj]; rfl
theorem all_of {α : Type} {L : List α} {p : α → Bool} (h : ∀ j (hj : j < L.length), p L[j] = true) : L.all p = true := by
  rw [List.all_eq_true]; intro x hx; obtain ⟨i, hi, rfl⟩ := List.mem_iff_getElem.1 hx; exact h i hi
theorem not_all_of {α : Type} {L : List α} {p : α → Bool} {j : Nat} (hj : j < L.length) (h : p L[j] = false) : L.all p = false := by
  rw [List.all_eq_false]; exact ⟨L[j], List.getElem_mem hj, by simp [h]⟩
set_option maxHeartbeats 2000000 in
set_option maxRecDepth 100000 in
theorem obeys_calls (a : Option Addr) (cap : Nat) (l : List Slt) (a' : Option Addr) (cap' : Nat) (rs : List Rul) (w : World) (hn : l.length ≤ cap) (hcap : cap ≤ 9223372036854775807) (hs : SlotsIn w a l)
    (hn' : rs.length ≤ cap') (hcap' : cap' ≤ 9223372036854775807) (hr : RulesIn w a' rs) (ok : Okp l rs) :
    Calls Try.prog 37 #[Pv a l.length cap a' rs.length cap'] w fun e w' => e = .returned (.bool (obeysB l rs)) ∧ Below w.heap.size w w' := by
  have HS := Lib.hid hs
  have HR := Lib.hid hr
  clear hs hr
  have HK := Lib.hid ok
  have HL := Lib.hid (allTo_rule l rs rs.length (Nat.le_refl _))
  have HC := Lib.hid (fun (W : World) (hW : Below w.heap.size w W) => breaches_calls a cap l a' cap' rs W hn hcap (HS.out.next hW) hn' hcap' (HR.out.next hW) HK.out)
  have F : Hid (obeysB l rs = (allL l rs).all (obB rs)) := Lib.hid rfl
  generalize obeysB l rs = v at *
  have HL2 : Hid (∀ x ∈ allL l rs, x.1 = -1 ∨ ∃ j : Nat, j < rs.length ∧ x.1 = (j : Int)) := HL
  clear HL ok
  generalize allL l rs = L at *
  go_enter Try.func37, Try.ntmps37
  go_wp2_with fail
  refine (HC.out _ (Bal (Below.refl _ _) _)).mono ?_
  rintro e w1 ⟨v1, rfl, ho, hb⟩
  obtain ⟨A, c, rfl, hc1, hc2, bi⟩ := bres_of_own ho
  have BI := Lib.hid bi
  have HX : Hid (w1.heap[w.heap.size]? = some (.cells #[.slice a l.length cap, .slice a' rs.length cap'] 25)) := Lib.hid (blk_next hb (blk_new w _))
  have HB : Hid (Below w.heap.size w w1) := Lib.hid (Bgo (Bal (Below.refl _ _) _) hb)
  clear ho hb bi HC
  go_wp2_with fail
  go_loopw [8] (fun i wr => ∃ k : Nat, k ≤ L.length ∧ i = .int .i64 k ∧ Hid (Below w1.heap.size w1 wr) ∧ Hid (∀ j (hj : j < L.length), j < k → obB rs L[j] = true)) (fun i _ => L.length - (intOf i).toNat)
  case atStart => exact ⟨0, by omega, rfl, Lib.hid (Below.refl _ _), Lib.hid (by omega)⟩
  case round =>
    obtain ⟨k, hk, rfl, HB1, HN⟩ := hrel
    have HX1 := Lib.hid (blk_next HB1.out HX.out)
    have HB2 : Hid (Below w.heap.size w wr) := Lib.hid (Bgo HB.out HB1.out)
    have x0 : wr.cell? ⟨w.heap.size, 0, none⟩ = some (.slice a l.length cap) := blk_cell HX1.out 0 _ rfl
    have x1 : wr.cell? ⟨w.heap.size, 1, none⟩ = some (.slice a' rs.length cap') := blk_cell HX1.out 1 _ rfl
    have xl := blk_lt HX1.out
    by_cases hlt : k < L.length
    · obtain ⟨b1, o1, rfl, hl1, c0, c1, c2⟩ := (BI.out.next HB1.out) k hlt
      have km0 : (0 : Int) ≤ (k : Int) := by omega
      have km1 : (k : Int) < (L.length : Int) := by omega
      have hx := HL2.out _ (List.getElem_mem hlt)
      rcases hx with hx | ⟨j, hj, hx⟩
      · have Fo := Lib.hid (obB_neg rs L[k] hx)
        rw [hx] at c0
        clear hx
        go_wp2_with fail
        go_ret
        refine ⟨ret_bool ?_, (Bal HB2.out _)⟩
        rw [F.out, not_all_of hlt Fo.out]
      · have Fo := Lib.hid (obB_pos hj hx)
        rw [hx] at c0
        clear hx
        obtain ⟨b2, o2, rfl, hl2, hc2'⟩ := (HR.out.next HB2.out) j hj
        have r5 := hc2'.c5
        clear hc2'
        have jm0 : (0 : Int) ≤ (j : Int) := by omega
        have jm1 : (j : Int) < (rs.length : Int) := by omega
        cases he : rs[j].why.toList.isEmpty
        · have Ft : Hid (obB rs L[k] = true) := Lib.hid (by rw [Fo.out, he]; rfl)
          have he2 : ¬ rs[j].why.toList = [] := by intro h; rw [h] at he; cases he
          go_wp2_with fail
          refine ⟨⟨k + 1, by omega, by go_num, Lib.hid (Bal HB1.out _), Lib.hid ?_⟩, by simp [intOf]; omega⟩
          intro j' hj' hjk
          by_cases e : j' = k
          · subst e; exact Ft.out
          · exact HN.out j' hj' (by omega)
        · have Ft : Hid (obB rs L[k] = false) := Lib.hid (by rw [Fo.out, he]; rfl)
          have he2 : rs[j].why.toList = [] := List.isEmpty_iff.1 he
          go_wp2_with fail
          go_ret
          refine ⟨ret_bool ?_, (Bal HB2.out _)⟩
          rw [F.out, not_all_of hlt Ft.out]
    · obtain rfl : k = L.length := by omega
      go_wp2_with fail
      go_ret
      refine ⟨ret_bool ?_, HB2.out⟩
      rw [F.out, all_of (fun j hj => HN.out j hj hj)]
set_option maxHeartbeats 2000000 in
set_option maxRecDepth 100000 in
theorem refObeys_calls (a : Option Addr) (cap : Nat) (l : List Slt) (a' : Option Addr) (cap' : Nat) (rs : List Rul) (w : World) (hn : l.length ≤ cap) (hcap : cap ≤ 9223372036854775807) (hs : SlotsIn w a l)
    (hn' : rs.length ≤ cap') (hcap' : cap' ≤ 9223372036854775807) (hr : RulesIn w a' rs) (ok : Okp l rs) :
    Calls Try.prog 38 #[Pv a l.length cap a' rs.length cap'] w fun e w' => e = .returned (.bool (obeysB l rs)) ∧ Below w.heap.size w w' := by
  have HS := Lib.hid hs
  have HR := Lib.hid hr
  clear hs hr
  have HK := Lib.hid ok
  have HL := Lib.hid (allTo_rule l rs rs.length (Nat.le_refl _))
  have HC := Lib.hid (fun (W : World) (hW : Below w.heap.size w W) => refAll_calls a cap l a' cap' rs W hn hcap (HS.out.next hW) hn' hcap' (HR.out.next hW) HK.out)
  have F : Hid (obeysB l rs = (allL l rs).all (obB rs)) := Lib.hid rfl
  generalize obeysB l rs = v at *
  have HL2 : Hid (∀ x ∈ allL l rs, x.1 = -1 ∨ ∃ j : Nat, j < rs.length ∧ x.1 = (j : Int)) := HL
  clear HL ok
  generalize allL l rs = L at *
  go_enter Try.func38, Try.ntmps38
  go_wp2_with fail
  refine (HC.out _ (Bal (Below.refl _ _) _)).mono ?_
  rintro e w1 ⟨v1, rfl, ho, hb⟩
  obtain ⟨A, c, rfl, hc1, hc2, bi⟩ := bres_of_own ho
  have BI := Lib.hid bi
  have HX : Hid (w1.heap[w.heap.size]? = some (.cells #[.slice a l.length cap, .slice a' rs.length cap'] 25)) := Lib.hid (blk_next hb (blk_new w _))
  have HB : Hid (Below w.heap.size w w1) := Lib.hid (Bgo (Bal (Below.refl _ _) _) hb)
  clear ho hb bi HC
  go_wp2_with fail
  go_loopw [4] (fun i wr => ∃ k : Nat, k ≤ L.length ∧ i = .int .i64 k ∧ Hid (Below w1.heap.size w1 wr) ∧ Hid (∀ j (hj : j < L.length), j < k → obB rs L[j] = true)) (fun i _ => L.length - (intOf i).toNat)
  case atStart => exact ⟨0, by omega, rfl, Lib.hid (Below.refl _ _), Lib.hid (by omega)⟩
  case round =>
    obtain ⟨k, hk, rfl, HB1, HN⟩ := hrel
    have HX1 := Lib.hid (blk_next HB1.out HX.out)
    have HB2 : Hid (Below w.heap.size w wr) := Lib.hid (Bgo HB.out HB1.out)
    have x0 : wr.cell? ⟨w.heap.size, 0, none⟩ = some (.slice a l.length cap) := blk_cell HX1.out 0 _ rfl
    have x1 : wr.cell? ⟨w.heap.size, 1, none⟩ = some (.slice a' rs.length cap') := blk_cell HX1.out 1 _ rfl
    have xl := blk_lt HX1.out
    by_cases hlt : k < L.length
    · obtain ⟨b1, o1, rfl, hl1, c0, c1, c2⟩ := (BI.out.next HB1.out) k hlt
      have km0 : (0 : Int) ≤ (k : Int) := by omega
      have km1 : (k : Int) < (L.length : Int) := by omega
      have hx := HL2.out _ (List.getElem_mem hlt)
      rcases hx with hx | ⟨j, hj, hx⟩
      · have Fo := Lib.hid (obB_neg rs L[k] hx)
        rw [hx] at c0
        clear hx
        go_wp2_with fail
        go_quiet (fail)
        go_wp2_with fail
        go_ret
        refine ⟨ret_bool ?_, (below_drewN HB2.out _)⟩
        rw [F.out, not_all_of hlt Fo.out]
      · have Fo := Lib.hid (obB_pos hj hx)
        rw [hx] at c0
        clear hx
        obtain ⟨b2, o2, rfl, hl2, hc2'⟩ := (HR.out.next HB2.out) j hj
        have r5 := hc2'.c5
        clear hc2'
        have jm0 : (0 : Int) ≤ (j : Int) := by omega
        have jm1 : (j : Int) < (rs.length : Int) := by omega
        cases he : rs[j].why.toList.isEmpty
        · have Ft : Hid (obB rs L[k] = true) := Lib.hid (by rw [Fo.out, he]; rfl)
          have he2 : ¬ rs[j].why.toList = [] := by intro h; rw [h] at he; cases he
          go_wp2_with fail
          go_quiet (fail)
          go_wp2_with fail
          refine ⟨⟨k + 1, by omega, by go_num, Lib.hid (below_drewN HB1.out _), Lib.hid ?_⟩, by simp [intOf]; omega⟩
          intro j' hj' hjk
          by_cases e : j' = k
          · subst e; exact Ft.out
          · exact HN.out j' hj' (by omega)
        · have Ft : Hid (obB rs L[k] = false) := Lib.hid (by rw [Fo.out, he]; rfl)
          have he2 : rs[j].why.toList = [] := List.isEmpty_iff.1 he
          go_wp2_with fail
          go_quiet (fail)
          go_wp2_with fail
          go_ret
          refine ⟨ret_bool ?_, (below_drewN HB2.out _)⟩
          rw [F.out, not_all_of hlt Ft.out]
    · obtain rfl : k = L.length := by omega
      go_wp2_with fail
      go_ret
      refine ⟨ret_bool ?_, HB2.out⟩
      rw [F.out, all_of (fun j hj => HN.out j hj hj)]
end Go.Proofs.Ythmfjlphmamegaa
