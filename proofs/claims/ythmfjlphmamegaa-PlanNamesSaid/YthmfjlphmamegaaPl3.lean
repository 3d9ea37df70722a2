/- Contracts of layer 43: Override and Add, of the program and of the reference. -/
import Derived.Test.YthmfjlphmamegaaPl1
import Derived.Test.YthmfjlphmamegaaPl2
namespace Go.Proofs.Ythmfjlphmamegaa
open Go.ChangeShapes Go.WideShapes Go.ChangeAt Go.RowKit
set_option linter.unusedVariables false
attribute [local go_sem ↓] Go.wp_at_zero Go.wp_at_succ

def PlanEPost (w : World) (l : List Slt) (rs : List Rul) (err : Int) (e : Ending) (w' : World) : Prop := ∃ v1 v2, e = .returned (.tuple #[.agg #[v1, v2], .int .i64 err]) ∧ w'.ownsRow w.heap.size 47 4 v1 l.length (slc l) ∧ w'.ownsRow w.heap.size 61 6 v2 rs.length (rlc rs) ∧ Below w.heap.size w w'
def ovE (l : List Slt) (rs : List Rul) (rule : Int) (why : ByteArray) : Int := if checkE l rs ≠ 0 then checkE l rs else if rule < 0 ∨ (rs.length : Int) ≤ rule then 2 else if 40 < why.size then 8 else 0
def ovR (rs : List Rul) (j : Nat) (why : ByteArray) : List Rul := rs.set j {rs.getD j r0 with why := why}
def ovL (l : List Slt) (rs : List Rul) (rule : Int) (why : ByteArray) : List Slt := if ovE l rs rule why = 0 then l else []
def ovRs (l : List Slt) (rs : List Rul) (rule : Int) (why : ByteArray) : List Rul := if ovE l rs rule why = 0 then ovR rs rule.toNat why else []
theorem ov_nil {l : List Slt} {rs : List Rul} {rule : Int} {why : ByteArray} {e : Int} (h : ovE l rs rule why = e) (he : e ≠ 0) : ovL l rs rule why = [] ∧ ovRs l rs rule why = [] := by
  unfold ovL ovRs; rw [h, if_neg he, if_neg he]; exact ⟨rfl, rfl⟩
theorem planE_nil {w W : World} {l : List Slt} {rs : List Rul} {err : Int} (hl : l = []) (hr : rs = []) (hb : Below w.heap.size w W) : PlanEPost w l rs err (.returned (.tuple #[.agg #[.slice none 0 0, .slice none 0 0], .int .i64 err])) W := by
  subst hl hr; exact ⟨_, _, rfl, World.ownsRow_nil _ _ _ _, World.ownsRow_nil _ _ _ _, hb⟩
theorem own_set_ne {W : World} {base g : Nat} {e : TypeId} {size n : Nat} {v : Value} {xs : List Value} (h : W.ownsRow base e size v n xs) (hne : v.ownBlock ≠ some g) (o : Nat) (u : Value) : (W.setCell ⟨g, o, none⟩ u).ownsRow base e size v n xs := by
  refine ⟨h.1, ?_⟩
  rcases h.2 with h0 | ⟨g', cap, cur, rfl, hb, hh, rest⟩
  · exact .inl h0
  · refine .inr ⟨g', cap, cur, rfl, hb, ?_, rest⟩
    have : g ≠ g' := by intro hg; subst hg; exact hne rfl
    exact blk_set_other hh this o u
theorem rlc_set (rs : List Rul) (j : Nat) (hj : j < rs.length) (why : ByteArray) : (rlc rs).set (j * 6 + 5) (.string why) = rlc (ovR rs j why) := by
  unfold ovR
  rw [getR_eq hj]
  unfold rlc
  induction rs generalizing j with
  | nil => simp at hj
  | cons x rs ih =>
    cases j with
    | zero => simp [rl6]
    | succ j =>
      have hj' : j < rs.length := by simpa using hj
      have e : (j + 1) * 6 + 5 = (j * 6 + 5) + 6 := by omega
      rw [List.flatMap_cons, e, List.set_append_right _ _ (by simp [rl6])]
      have e2 : j * 6 + 5 + 6 - (rl6 x).length = j * 6 + 5 := by simp [rl6]
      rw [e2, ih j hj']
      simp
theorem ovR_len (rs : List Rul) (j : Nat) (why : ByteArray) : (ovR rs j why).length = rs.length := by unfold ovR; simp
set_option maxHeartbeats 4000000 in
set_option maxRecDepth 100000 in
theorem override_calls (a : Option Addr) (cap : Nat) (l : List Slt) (a' : Option Addr) (cap' : Nat) (rs : List Rul) (w : World) (hn : l.length ≤ cap) (hcap : cap ≤ 9223372036854775807) (hs : SlotsIn w a l)
    (hn' : rs.length ≤ cap') (hcap' : cap' ≤ 9223372036854775807) (hr : RulesIn w a' rs) (rule : Int) (why : ByteArray) (hwhy : why.size ≤ 9223372036854775807) :
    Calls Try.prog 22 #[Pv a l.length cap a' rs.length cap', .int .i64 rule, .string why] w (PlanEPost w (ovL l rs rule why) (ovRs l rs rule why) (ovE l rs rule why)) := by
  have HS := Lib.hid hs
  have HR := Lib.hid hr
  clear hs hr
  have CK := Lib.hid (fun (W : World) (hW : Below w.heap.size w W) => check_calls a cap l a' cap' rs W hn hcap (HS.out.next hW) hn' hcap' (HR.out.next hW))
  have start : ∀ (Q : Ending → World → Prop), True := fun _ => trivial
  clear start
  by_cases hE : checkE l rs = 0
  case neg =>
    have FE : Hid (ovE l rs rule why = checkE l rs) := Lib.hid (by unfold ovE; rw [if_pos hE])
    have FL : Hid (ovL l rs rule why = []) := Lib.hid (ov_nil FE.out hE).1
    have FR : Hid (ovRs l rs rule why = []) := Lib.hid (ov_nil FE.out hE).2
    generalize ovL l rs rule why = L at *
    generalize ovRs l rs rule why = RS at *
    generalize ovE l rs rule why = E at *
    generalize checkE l rs = ce at *
    have hne : (ce != 0) = true := by simpa using hE
    go_enter Try.func22, Try.ntmps22
    go_wp2_with fail
    refine (CK.out _ (Bal (Bal (Below.refl _ _) _) _)).mono ?_
    rintro e w1 ⟨rfl, hb⟩
    have HX : Hid (w1.heap[w.heap.size]? = some (.cells #[.slice a l.length cap, .slice a' rs.length cap'] 25)) := Lib.hid (blk_next hb (blk1 w _ _))
    have HZ : Hid (w1.heap[w.heap.size + 1]? = some (.cells #[.slice none 0 0, .slice none 0 0] 25)) := Lib.hid (blk_next hb (blk2 w _ _))
    have HB : Hid (Below w.heap.size w w1) := Lib.hid (Bgo (Bal (Bal (Below.refl _ _) _) _) hb)
    clear hb CK
    have p0 : w1.cell? ⟨w.heap.size, 0, none⟩ = some (.slice a l.length cap) := blk_cell HX.out 0 _ rfl
    have p1 : w1.cell? ⟨w.heap.size, 1, none⟩ = some (.slice a' rs.length cap') := blk_cell HX.out 1 _ rfl
    have r0 : w1.cell? ⟨w.heap.size + 1, 0, none⟩ = some (.slice none 0 0) := blk_cell HZ.out 0 _ rfl
    have r1 : w1.cell? ⟨w.heap.size + 1, 1, none⟩ = some (.slice none 0 0) := blk_cell HZ.out 1 _ rfl
    have q0 : w1.frozen? ⟨w.heap.size + 1, 0, none⟩ = false := blk_frozen HZ.out 0
    have q1 : w1.frozen? ⟨w.heap.size + 1, 1, none⟩ = false := blk_frozen HZ.out 1
    go_wp2_with fail
    have e1 : ((w1.setCell ⟨w.heap.size + 1, 0, none⟩ (.slice none 0 0)).setCell ⟨w.heap.size + 1, 1, none⟩ (.slice none 0 0)).cell? ⟨w.heap.size + 1, 0, none⟩ = some (.slice none 0 0) := blk_cell (blk_set (blk_set HZ.out 0 _) 1 _) 0 _ rfl
    have e2 : ((w1.setCell ⟨w.heap.size + 1, 0, none⟩ (.slice none 0 0)).setCell ⟨w.heap.size + 1, 1, none⟩ (.slice none 0 0)).cell? ⟨w.heap.size + 1, 1, none⟩ = some (.slice none 0 0) := blk_cell (blk_set (blk_set HZ.out 0 _) 1 _) 1 _ rfl
    refine bodyPost_ret (v := .tuple #[.agg #[.slice none 0 0, .slice none 0 0], .int .i64 ce]) (by simp [results, Try.results22, go_sem, e1, e2]) rfl ?_
    rw [FE.out]
    exact planE_nil FL.out FR.out (Bset1 (Bset1 HB.out (by omega) _ _) (by omega) _ _)
  case pos =>
    have h20 := (okp_of hE).ls
    have h20' := (okp_of hE).rl
    by_cases hq : rule < 0 ∨ (rs.length : Int) ≤ rule
    · have FE : Hid (ovE l rs rule why = 2) := Lib.hid (by unfold ovE; rw [if_neg (by simpa using hE), if_pos hq])
      have FL : Hid (ovL l rs rule why = []) := Lib.hid (ov_nil FE.out (by decide)).1
      have FR : Hid (ovRs l rs rule why = []) := Lib.hid (ov_nil FE.out (by decide)).2
      generalize ovL l rs rule why = L at *
      generalize ovRs l rs rule why = RS at *
      generalize ovE l rs rule why = E at *
      generalize checkE l rs = ce at *
      subst hE
      have hq2 : decide (rule < 0) = true ∨ (decide (rule < 0) = false ∧ decide ((rs.length : Int) ≤ rule) = true) := by
        by_cases h : rule < 0
        · exact .inl (by simpa using h)
        · exact .inr ⟨by simpa using h, by simp; omega⟩
      rcases hq2 with hq2 | ⟨hq2, hq3⟩
      all_goals
        go_enter Try.func22, Try.ntmps22
        go_wp2_with fail
        refine (CK.out _ (Bal (Bal (Below.refl _ _) _) _)).mono ?_
        rintro e w1 ⟨rfl, hb⟩
        have HX : Hid (w1.heap[w.heap.size]? = some (.cells #[.slice a l.length cap, .slice a' rs.length cap'] 25)) := Lib.hid (blk_next hb (blk1 w _ _))
        have HZ : Hid (w1.heap[w.heap.size + 1]? = some (.cells #[.slice none 0 0, .slice none 0 0] 25)) := Lib.hid (blk_next hb (blk2 w _ _))
        have HB : Hid (Below w.heap.size w w1) := Lib.hid (Bgo (Bal (Bal (Below.refl _ _) _) _) hb)
        clear hb CK
        have p0 : w1.cell? ⟨w.heap.size, 0, none⟩ = some (.slice a l.length cap) := blk_cell HX.out 0 _ rfl
        have p1 : w1.cell? ⟨w.heap.size, 1, none⟩ = some (.slice a' rs.length cap') := blk_cell HX.out 1 _ rfl
        have r0 : w1.cell? ⟨w.heap.size + 1, 0, none⟩ = some (.slice none 0 0) := blk_cell HZ.out 0 _ rfl
        have r1 : w1.cell? ⟨w.heap.size + 1, 1, none⟩ = some (.slice none 0 0) := blk_cell HZ.out 1 _ rfl
        have q0 : w1.frozen? ⟨w.heap.size + 1, 0, none⟩ = false := blk_frozen HZ.out 0
        have q1 : w1.frozen? ⟨w.heap.size + 1, 1, none⟩ = false := blk_frozen HZ.out 1
        go_wp2_with fail
        have e1 : ((w1.setCell ⟨w.heap.size + 1, 0, none⟩ (.slice none 0 0)).setCell ⟨w.heap.size + 1, 1, none⟩ (.slice none 0 0)).cell? ⟨w.heap.size + 1, 0, none⟩ = some (.slice none 0 0) := blk_cell (blk_set (blk_set HZ.out 0 _) 1 _) 0 _ rfl
        have e2 : ((w1.setCell ⟨w.heap.size + 1, 0, none⟩ (.slice none 0 0)).setCell ⟨w.heap.size + 1, 1, none⟩ (.slice none 0 0)).cell? ⟨w.heap.size + 1, 1, none⟩ = some (.slice none 0 0) := blk_cell (blk_set (blk_set HZ.out 0 _) 1 _) 1 _ rfl
        refine bodyPost_ret (v := .tuple #[.agg #[.slice none 0 0, .slice none 0 0], .int .i64 2]) (by simp [results, Try.results22, go_sem, e1, e2]) rfl ?_
        rw [FE.out]
        exact planE_nil FL.out FR.out (Bset1 (Bset1 HB.out (by omega) _ _) (by omega) _ _)
    by_cases hw : 40 < why.size
    · have FE : Hid (ovE l rs rule why = 8) := Lib.hid (by unfold ovE; rw [if_neg (by simpa using hE), if_neg hq, if_pos hw])
      have FL : Hid (ovL l rs rule why = []) := Lib.hid (ov_nil FE.out (by decide)).1
      have FR : Hid (ovRs l rs rule why = []) := Lib.hid (ov_nil FE.out (by decide)).2
      generalize ovL l rs rule why = L at *
      generalize ovRs l rs rule why = RS at *
      generalize ovE l rs rule why = E at *
      generalize checkE l rs = ce at *
      subst hE
      have hq2 : decide (rule < 0) = false := by simp; omega
      have hq3 : decide ((rs.length : Int) ≤ rule) = false := by simp; omega
      go_enter Try.func22, Try.ntmps22
      go_wp2_with fail
      refine (CK.out _ (Bal (Bal (Below.refl _ _) _) _)).mono ?_
      rintro e w1 ⟨rfl, hb⟩
      have HX : Hid (w1.heap[w.heap.size]? = some (.cells #[.slice a l.length cap, .slice a' rs.length cap'] 25)) := Lib.hid (blk_next hb (blk1 w _ _))
      have HZ : Hid (w1.heap[w.heap.size + 1]? = some (.cells #[.slice none 0 0, .slice none 0 0] 25)) := Lib.hid (blk_next hb (blk2 w _ _))
      have HB : Hid (Below w.heap.size w w1) := Lib.hid (Bgo (Bal (Bal (Below.refl _ _) _) _) hb)
      clear hb CK
      have p0 : w1.cell? ⟨w.heap.size, 0, none⟩ = some (.slice a l.length cap) := blk_cell HX.out 0 _ rfl
      have p1 : w1.cell? ⟨w.heap.size, 1, none⟩ = some (.slice a' rs.length cap') := blk_cell HX.out 1 _ rfl
      have r0 : w1.cell? ⟨w.heap.size + 1, 0, none⟩ = some (.slice none 0 0) := blk_cell HZ.out 0 _ rfl
      have r1 : w1.cell? ⟨w.heap.size + 1, 1, none⟩ = some (.slice none 0 0) := blk_cell HZ.out 1 _ rfl
      have q0 : w1.frozen? ⟨w.heap.size + 1, 0, none⟩ = false := blk_frozen HZ.out 0
      have q1 : w1.frozen? ⟨w.heap.size + 1, 1, none⟩ = false := blk_frozen HZ.out 1
      go_wp2_with fail
      have e1 : ((w1.setCell ⟨w.heap.size + 1, 0, none⟩ (.slice none 0 0)).setCell ⟨w.heap.size + 1, 1, none⟩ (.slice none 0 0)).cell? ⟨w.heap.size + 1, 0, none⟩ = some (.slice none 0 0) := blk_cell (blk_set (blk_set HZ.out 0 _) 1 _) 0 _ rfl
      have e2 : ((w1.setCell ⟨w.heap.size + 1, 0, none⟩ (.slice none 0 0)).setCell ⟨w.heap.size + 1, 1, none⟩ (.slice none 0 0)).cell? ⟨w.heap.size + 1, 1, none⟩ = some (.slice none 0 0) := blk_cell (blk_set (blk_set HZ.out 0 _) 1 _) 1 _ rfl
      refine bodyPost_ret (v := .tuple #[.agg #[.slice none 0 0, .slice none 0 0], .int .i64 8]) (by simp [results, Try.results22, go_sem, e1, e2]) rfl ?_
      rw [FE.out]
      exact planE_nil FL.out FR.out (Bset1 (Bset1 HB.out (by omega) _ _) (by omega) _ _)
    have FE : Hid (ovE l rs rule why = 0) := Lib.hid (by unfold ovE; rw [if_neg (by simpa using hE), if_neg hq, if_neg hw])
    have FL : Hid (ovL l rs rule why = l) := Lib.hid (by unfold ovL; rw [FE.out, if_pos rfl])
    have FR : Hid (ovRs l rs rule why = ovR rs rule.toNat why) := Lib.hid (by unfold ovRs; rw [FE.out, if_pos rfl])
    have OK := Lib.hid hE
    generalize ovL l rs rule why = L at *
    generalize ovRs l rs rule why = RS at *
    generalize ovE l rs rule why = E at *
    generalize checkE l rs = ce at *
    subst hE
    obtain ⟨j, rfl⟩ : ∃ j : Nat, rule = (j : Int) := ⟨rule.toNat, by omega⟩
    have hj : j < rs.length := by omega
    rw [Int.toNat_natCast] at FR
    clear hq
    have CP := Lib.hid (fun (W : World) (hW : Below w.heap.size w W) => copied_calls a cap l a' cap' rs W hn hcap (HS.out.next hW) hn' hcap' (HR.out.next hW) (by omega) (by omega))
    go_enter Try.func22, Try.ntmps22
    go_wp2_with fail
    refine (CK.out _ (Bal (Bal (Below.refl _ _) _) _)).mono ?_
    rintro e w1 ⟨rfl, hb⟩
    have HX : Hid (w1.heap[w.heap.size]? = some (.cells #[.slice a l.length cap, .slice a' rs.length cap'] 25)) := Lib.hid (blk_next hb (blk1 w _ _))
    have HZ : Hid (w1.heap[w.heap.size + 1]? = some (.cells #[.slice none 0 0, .slice none 0 0] 25)) := Lib.hid (blk_next hb (blk2 w _ _))
    have HB : Hid (Below w.heap.size w w1) := Lib.hid (Bgo (Bal (Bal (Below.refl _ _) _) _) hb)
    clear hb CK
    have p0 : w1.cell? ⟨w.heap.size, 0, none⟩ = some (.slice a l.length cap) := blk_cell HX.out 0 _ rfl
    have p1 : w1.cell? ⟨w.heap.size, 1, none⟩ = some (.slice a' rs.length cap') := blk_cell HX.out 1 _ rfl
    have r0 : w1.cell? ⟨w.heap.size + 1, 0, none⟩ = some (.slice none 0 0) := blk_cell HZ.out 0 _ rfl
    have r1 : w1.cell? ⟨w.heap.size + 1, 1, none⟩ = some (.slice none 0 0) := blk_cell HZ.out 1 _ rfl
    have q0 : w1.frozen? ⟨w.heap.size + 1, 0, none⟩ = false := blk_frozen HZ.out 0
    have q1 : w1.frozen? ⟨w.heap.size + 1, 1, none⟩ = false := blk_frozen HZ.out 1
    go_wp2_with fail
    refine (CP.out _ HB.out).mono ?_
    rintro e w2 ⟨v1, v2, rfl, o1, o2, hb2⟩
    obtain ⟨A1, k1, rfl, _, _, _⟩ := Rd.of_own o1
    have HXn := Lib.hid (blk_next hb2 HX.out)
    have HZn := Lib.hid (blk_next hb2 HZ.out)
    have HBn : Hid (Below w.heap.size w w2) := Lib.hid (Bgo HB.out hb2)
    have hz9 := blk_lt HZ.out
    rcases o2.2 with ⟨_, hbad⟩ | ⟨g, k2, cur, rfl, hg1, hg2, hg3, hg4, hg5, hg6⟩
    · omega
    have hgl : g < w2.heap.size := blk_lt hg2
    have hcj : w2.cell? ⟨g, j * 6 + 5, none⟩ = some (.string rs[j].why) := by
      rw [o2.cellAt (j * 6 + 5) (by omega)]
      unfold rlc
      rw [fm_get rl6 6 rl6_len rs j 5 hj (by omega)]; rfl
    have hfj : w2.frozen? ⟨g, j * 6 + 5, none⟩ = false := o2.frozenAt _
    have O1 := Lib.hid o1
    have O2 := Lib.hid o2
    have G := Lib.hid hg2
    have GB := Lib.hid hg1
    have hge : w1.heap.size ≤ g := hg1
    clear p0 p1 r0 r1 q0 q1 hg1 hg2 hg3 hg4 hg5 hg6 o1 o2 hb2 HX HZ HB
    have HX := HXn
    have HZ := HZn
    have HB := HBn
    clear HXn HZn HBn
    have p0 : w2.cell? ⟨w.heap.size, 0, none⟩ = some (.slice a l.length cap) := blk_cell HX.out 0 _ rfl
    have p1 : w2.cell? ⟨w.heap.size, 1, none⟩ = some (.slice a' rs.length cap') := blk_cell HX.out 1 _ rfl
    have r0 : w2.cell? ⟨w.heap.size + 1, 0, none⟩ = some (.slice none 0 0) := blk_cell HZ.out 0 _ rfl
    have r1 : w2.cell? ⟨w.heap.size + 1, 1, none⟩ = some (.slice none 0 0) := blk_cell HZ.out 1 _ rfl
    have q0 : w2.frozen? ⟨w.heap.size + 1, 0, none⟩ = false := blk_frozen HZ.out 0
    have q1 : w2.frozen? ⟨w.heap.size + 1, 1, none⟩ = false := blk_frozen HZ.out 1
    have d1 : ¬ g = w2.heap.size := by omega
    have d2 : ¬ w2.heap.size = g := by omega
    have d3 : ¬ g = w.heap.size + 1 := by omega
    have d4 : ¬ w.heap.size + 1 = g := by omega
    have d5 : ¬ w.heap.size + 1 = w2.heap.size := by omega
    have d6 : ¬ w2.heap.size = w.heap.size + 1 := by omega
    have d7 : w.heap.size + 1 < w2.heap.size := by omega
    have jm0 : (0 : Int) ≤ (j : Int) := by omega
    have jm1 : (j : Int) < (rs.length : Int) := by omega
    go_wp2_with fail
    have e1 : ((((w2.setCell ⟨g, j * 6 + 5, none⟩ (.string why)).setCell ⟨w.heap.size + 1, 0, none⟩ (.slice A1 l.length k1)).setCell ⟨w.heap.size + 1, 1, none⟩ (.slice (some ⟨g, 0, none⟩) rs.length k2)).alloc (.cells #[.slice A1 l.length k1, .slice (some ⟨g, 0, none⟩) rs.length k2] 25)).cell? ⟨w.heap.size + 1, 0, none⟩ = some (.slice A1 l.length k1) := blk_cell (blk_alloc (blk_set (blk_set (blk_set_other HZ.out d3 _ _) 0 _) 1 _) _) 0 _ rfl
    have e2 : ((((w2.setCell ⟨g, j * 6 + 5, none⟩ (.string why)).setCell ⟨w.heap.size + 1, 0, none⟩ (.slice A1 l.length k1)).setCell ⟨w.heap.size + 1, 1, none⟩ (.slice (some ⟨g, 0, none⟩) rs.length k2)).alloc (.cells #[.slice A1 l.length k1, .slice (some ⟨g, 0, none⟩) rs.length k2] 25)).cell? ⟨w.heap.size + 1, 1, none⟩ = some (.slice (some ⟨g, 0, none⟩) rs.length k2) := blk_cell (blk_alloc (blk_set (blk_set (blk_set_other HZ.out d3 _ _) 0 _) 1 _) _) 1 _ rfl
    refine bodyPost_ret (v := .tuple #[.agg #[.slice A1 l.length k1, .slice (some ⟨g, 0, none⟩) rs.length k2], .int .i64 0]) (by simp [results, Try.results22, go_sem, e1, e2]) rfl ?_
    rw [FE.out, FL.out, FR.out]
    have HLT : w.heap.size + 1 < w1.heap.size := hz9
    refine ⟨_, _, rfl, ?_, ?_, ?_⟩
    · refine World.ownsRow.mono (World.ownsRow.alloc (ownsRow_setCell_below (ownsRow_setCell_below (own_set_ne O1.out (own_ne O1.out G.out (by decide)) _ _) ?_ _) ?_ _) _) (by omega) <;> exact HLT
    · rw [ovR_len, ← rlc_set rs j hj why]
      refine World.ownsRow.mono (World.ownsRow.alloc (ownsRow_setCell_below (ownsRow_setCell_below (O2.out.stored _ _).1 ?_ _) ?_ _) _) (by omega) <;> exact HLT
    · exact Bal (Bset1 (Bset1 (Bset1 HB.out (by omega) _ _) (by omega) _ _) (by omega) _ _) _
set_option maxHeartbeats 4000000 in
set_option maxRecDepth 100000 in
theorem refOverride_calls (a : Option Addr) (cap : Nat) (l : List Slt) (a' : Option Addr) (cap' : Nat) (rs : List Rul) (w : World) (hn : l.length ≤ cap) (hcap : cap ≤ 9223372036854775807) (hs : SlotsIn w a l)
    (hn' : rs.length ≤ cap') (hcap' : cap' ≤ 9223372036854775807) (hr : RulesIn w a' rs) (rule : Int) (why : ByteArray) (hwhy : why.size ≤ 9223372036854775807) :
    Calls Try.prog 23 #[Pv a l.length cap a' rs.length cap', .int .i64 rule, .string why] w (PlanEPost w (ovL l rs rule why) (ovRs l rs rule why) (ovE l rs rule why)) := by
  have HS := Lib.hid hs
  have HR := Lib.hid hr
  clear hs hr
  have CK := Lib.hid (fun (W : World) (hW : Below w.heap.size w W) => refCheck_calls a cap l a' cap' rs W hn hcap (HS.out.next hW) hn' hcap' (HR.out.next hW))
  have start : ∀ (Q : Ending → World → Prop), True := fun _ => trivial
  clear start
  by_cases hE : checkE l rs = 0
  case neg =>
    have FE : Hid (ovE l rs rule why = checkE l rs) := Lib.hid (by unfold ovE; rw [if_pos hE])
    have FL : Hid (ovL l rs rule why = []) := Lib.hid (ov_nil FE.out hE).1
    have FR : Hid (ovRs l rs rule why = []) := Lib.hid (ov_nil FE.out hE).2
    generalize ovL l rs rule why = L at *
    generalize ovRs l rs rule why = RS at *
    generalize ovE l rs rule why = E at *
    generalize checkE l rs = ce at *
    have hne : (ce != 0) = true := by simpa using hE
    go_enter Try.func23, Try.ntmps23
    go_wp2_with fail
    refine (CK.out _ (Bal (Bal (Below.refl _ _) _) _)).mono ?_
    rintro e w1 ⟨rfl, hb⟩
    have HX : Hid (w1.heap[w.heap.size]? = some (.cells #[.slice a l.length cap, .slice a' rs.length cap'] 25)) := Lib.hid (blk_next hb (blk1 w _ _))
    have HZ : Hid (w1.heap[w.heap.size + 1]? = some (.cells #[.slice none 0 0, .slice none 0 0] 25)) := Lib.hid (blk_next hb (blk2 w _ _))
    have HB : Hid (Below w.heap.size w w1) := Lib.hid (Bgo (Bal (Bal (Below.refl _ _) _) _) hb)
    clear hb CK
    have p0 : w1.cell? ⟨w.heap.size, 0, none⟩ = some (.slice a l.length cap) := blk_cell HX.out 0 _ rfl
    have p1 : w1.cell? ⟨w.heap.size, 1, none⟩ = some (.slice a' rs.length cap') := blk_cell HX.out 1 _ rfl
    have r0 : w1.cell? ⟨w.heap.size + 1, 0, none⟩ = some (.slice none 0 0) := blk_cell HZ.out 0 _ rfl
    have r1 : w1.cell? ⟨w.heap.size + 1, 1, none⟩ = some (.slice none 0 0) := blk_cell HZ.out 1 _ rfl
    have q0 : w1.frozen? ⟨w.heap.size + 1, 0, none⟩ = false := blk_frozen HZ.out 0
    have q1 : w1.frozen? ⟨w.heap.size + 1, 1, none⟩ = false := blk_frozen HZ.out 1
    go_wp2_with fail
    have e1 : ((w1.setCell ⟨w.heap.size + 1, 0, none⟩ (.slice none 0 0)).setCell ⟨w.heap.size + 1, 1, none⟩ (.slice none 0 0)).cell? ⟨w.heap.size + 1, 0, none⟩ = some (.slice none 0 0) := blk_cell (blk_set (blk_set HZ.out 0 _) 1 _) 0 _ rfl
    have e2 : ((w1.setCell ⟨w.heap.size + 1, 0, none⟩ (.slice none 0 0)).setCell ⟨w.heap.size + 1, 1, none⟩ (.slice none 0 0)).cell? ⟨w.heap.size + 1, 1, none⟩ = some (.slice none 0 0) := blk_cell (blk_set (blk_set HZ.out 0 _) 1 _) 1 _ rfl
    refine bodyPost_ret (v := .tuple #[.agg #[.slice none 0 0, .slice none 0 0], .int .i64 ce]) (by simp [results, Try.results23, go_sem, e1, e2]) rfl ?_
    rw [FE.out]
    exact planE_nil FL.out FR.out (Bset1 (Bset1 HB.out (by omega) _ _) (by omega) _ _)
  case pos =>
    have h20 := (okp_of hE).ls
    have h20' := (okp_of hE).rl
    by_cases hq : rule < 0 ∨ (rs.length : Int) ≤ rule
    · have FE : Hid (ovE l rs rule why = 2) := Lib.hid (by unfold ovE; rw [if_neg (by simpa using hE), if_pos hq])
      have FL : Hid (ovL l rs rule why = []) := Lib.hid (ov_nil FE.out (by decide)).1
      have FR : Hid (ovRs l rs rule why = []) := Lib.hid (ov_nil FE.out (by decide)).2
      generalize ovL l rs rule why = L at *
      generalize ovRs l rs rule why = RS at *
      generalize ovE l rs rule why = E at *
      generalize checkE l rs = ce at *
      subst hE
      have hq2 : decide (rule < 0) = true ∨ (decide (rule < 0) = false ∧ decide ((rs.length : Int) ≤ rule) = true) := by
        by_cases h : rule < 0
        · exact .inl (by simpa using h)
        · exact .inr ⟨by simpa using h, by simp; omega⟩
      rcases hq2 with hq2 | ⟨hq2, hq3⟩
      all_goals
        go_enter Try.func23, Try.ntmps23
        go_wp2_with fail
        refine (CK.out _ (Bal (Bal (Below.refl _ _) _) _)).mono ?_
        rintro e w1 ⟨rfl, hb⟩
        have HX : Hid (w1.heap[w.heap.size]? = some (.cells #[.slice a l.length cap, .slice a' rs.length cap'] 25)) := Lib.hid (blk_next hb (blk1 w _ _))
        have HZ : Hid (w1.heap[w.heap.size + 1]? = some (.cells #[.slice none 0 0, .slice none 0 0] 25)) := Lib.hid (blk_next hb (blk2 w _ _))
        have HB : Hid (Below w.heap.size w w1) := Lib.hid (Bgo (Bal (Bal (Below.refl _ _) _) _) hb)
        clear hb CK
        have p0 : w1.cell? ⟨w.heap.size, 0, none⟩ = some (.slice a l.length cap) := blk_cell HX.out 0 _ rfl
        have p1 : w1.cell? ⟨w.heap.size, 1, none⟩ = some (.slice a' rs.length cap') := blk_cell HX.out 1 _ rfl
        have r0 : w1.cell? ⟨w.heap.size + 1, 0, none⟩ = some (.slice none 0 0) := blk_cell HZ.out 0 _ rfl
        have r1 : w1.cell? ⟨w.heap.size + 1, 1, none⟩ = some (.slice none 0 0) := blk_cell HZ.out 1 _ rfl
        have q0 : w1.frozen? ⟨w.heap.size + 1, 0, none⟩ = false := blk_frozen HZ.out 0
        have q1 : w1.frozen? ⟨w.heap.size + 1, 1, none⟩ = false := blk_frozen HZ.out 1
        go_wp2_with fail
        have e1 : ((w1.setCell ⟨w.heap.size + 1, 0, none⟩ (.slice none 0 0)).setCell ⟨w.heap.size + 1, 1, none⟩ (.slice none 0 0)).cell? ⟨w.heap.size + 1, 0, none⟩ = some (.slice none 0 0) := blk_cell (blk_set (blk_set HZ.out 0 _) 1 _) 0 _ rfl
        have e2 : ((w1.setCell ⟨w.heap.size + 1, 0, none⟩ (.slice none 0 0)).setCell ⟨w.heap.size + 1, 1, none⟩ (.slice none 0 0)).cell? ⟨w.heap.size + 1, 1, none⟩ = some (.slice none 0 0) := blk_cell (blk_set (blk_set HZ.out 0 _) 1 _) 1 _ rfl
        refine bodyPost_ret (v := .tuple #[.agg #[.slice none 0 0, .slice none 0 0], .int .i64 2]) (by simp [results, Try.results23, go_sem, e1, e2]) rfl ?_
        rw [FE.out]
        exact planE_nil FL.out FR.out (Bset1 (Bset1 HB.out (by omega) _ _) (by omega) _ _)
    by_cases hw : 40 < why.size
    · have FE : Hid (ovE l rs rule why = 8) := Lib.hid (by unfold ovE; rw [if_neg (by simpa using hE), if_neg hq, if_pos hw])
      have FL : Hid (ovL l rs rule why = []) := Lib.hid (ov_nil FE.out (by decide)).1
      have FR : Hid (ovRs l rs rule why = []) := Lib.hid (ov_nil FE.out (by decide)).2
      generalize ovL l rs rule why = L at *
      generalize ovRs l rs rule why = RS at *
      generalize ovE l rs rule why = E at *
      generalize checkE l rs = ce at *
      subst hE
      have hq2 : decide (rule < 0) = false := by simp; omega
      have hq3 : decide ((rs.length : Int) ≤ rule) = false := by simp; omega
      go_enter Try.func23, Try.ntmps23
      go_wp2_with fail
      refine (CK.out _ (Bal (Bal (Below.refl _ _) _) _)).mono ?_
      rintro e w1 ⟨rfl, hb⟩
      have HX : Hid (w1.heap[w.heap.size]? = some (.cells #[.slice a l.length cap, .slice a' rs.length cap'] 25)) := Lib.hid (blk_next hb (blk1 w _ _))
      have HZ : Hid (w1.heap[w.heap.size + 1]? = some (.cells #[.slice none 0 0, .slice none 0 0] 25)) := Lib.hid (blk_next hb (blk2 w _ _))
      have HB : Hid (Below w.heap.size w w1) := Lib.hid (Bgo (Bal (Bal (Below.refl _ _) _) _) hb)
      clear hb CK
      have p0 : w1.cell? ⟨w.heap.size, 0, none⟩ = some (.slice a l.length cap) := blk_cell HX.out 0 _ rfl
      have p1 : w1.cell? ⟨w.heap.size, 1, none⟩ = some (.slice a' rs.length cap') := blk_cell HX.out 1 _ rfl
      have r0 : w1.cell? ⟨w.heap.size + 1, 0, none⟩ = some (.slice none 0 0) := blk_cell HZ.out 0 _ rfl
      have r1 : w1.cell? ⟨w.heap.size + 1, 1, none⟩ = some (.slice none 0 0) := blk_cell HZ.out 1 _ rfl
      have q0 : w1.frozen? ⟨w.heap.size + 1, 0, none⟩ = false := blk_frozen HZ.out 0
      have q1 : w1.frozen? ⟨w.heap.size + 1, 1, none⟩ = false := blk_frozen HZ.out 1
      go_wp2_with fail
      have e1 : ((w1.setCell ⟨w.heap.size + 1, 0, none⟩ (.slice none 0 0)).setCell ⟨w.heap.size + 1, 1, none⟩ (.slice none 0 0)).cell? ⟨w.heap.size + 1, 0, none⟩ = some (.slice none 0 0) := blk_cell (blk_set (blk_set HZ.out 0 _) 1 _) 0 _ rfl
      have e2 : ((w1.setCell ⟨w.heap.size + 1, 0, none⟩ (.slice none 0 0)).setCell ⟨w.heap.size + 1, 1, none⟩ (.slice none 0 0)).cell? ⟨w.heap.size + 1, 1, none⟩ = some (.slice none 0 0) := blk_cell (blk_set (blk_set HZ.out 0 _) 1 _) 1 _ rfl
      refine bodyPost_ret (v := .tuple #[.agg #[.slice none 0 0, .slice none 0 0], .int .i64 8]) (by simp [results, Try.results23, go_sem, e1, e2]) rfl ?_
      rw [FE.out]
      exact planE_nil FL.out FR.out (Bset1 (Bset1 HB.out (by omega) _ _) (by omega) _ _)
    have FE : Hid (ovE l rs rule why = 0) := Lib.hid (by unfold ovE; rw [if_neg (by simpa using hE), if_neg hq, if_neg hw])
    have FL : Hid (ovL l rs rule why = l) := Lib.hid (by unfold ovL; rw [FE.out, if_pos rfl])
    have FR : Hid (ovRs l rs rule why = ovR rs rule.toNat why) := Lib.hid (by unfold ovRs; rw [FE.out, if_pos rfl])
    have OK := Lib.hid hE
    generalize ovL l rs rule why = L at *
    generalize ovRs l rs rule why = RS at *
    generalize ovE l rs rule why = E at *
    generalize checkE l rs = ce at *
    subst hE
    obtain ⟨j, rfl⟩ : ∃ j : Nat, rule = (j : Int) := ⟨rule.toNat, by omega⟩
    have hj : j < rs.length := by omega
    rw [Int.toNat_natCast] at FR
    clear hq
    have CP := Lib.hid (fun (W : World) (hW : Below w.heap.size w W) => twin_calls a cap l a' cap' rs W hn hcap (HS.out.next hW) hn' hcap' (HR.out.next hW) (by omega) (by omega))
    go_enter Try.func23, Try.ntmps23
    go_wp2_with fail
    refine (CK.out _ (Bal (Bal (Below.refl _ _) _) _)).mono ?_
    rintro e w1 ⟨rfl, hb⟩
    have HX : Hid (w1.heap[w.heap.size]? = some (.cells #[.slice a l.length cap, .slice a' rs.length cap'] 25)) := Lib.hid (blk_next hb (blk1 w _ _))
    have HZ : Hid (w1.heap[w.heap.size + 1]? = some (.cells #[.slice none 0 0, .slice none 0 0] 25)) := Lib.hid (blk_next hb (blk2 w _ _))
    have HB : Hid (Below w.heap.size w w1) := Lib.hid (Bgo (Bal (Bal (Below.refl _ _) _) _) hb)
    clear hb CK
    have p0 : w1.cell? ⟨w.heap.size, 0, none⟩ = some (.slice a l.length cap) := blk_cell HX.out 0 _ rfl
    have p1 : w1.cell? ⟨w.heap.size, 1, none⟩ = some (.slice a' rs.length cap') := blk_cell HX.out 1 _ rfl
    have r0 : w1.cell? ⟨w.heap.size + 1, 0, none⟩ = some (.slice none 0 0) := blk_cell HZ.out 0 _ rfl
    have r1 : w1.cell? ⟨w.heap.size + 1, 1, none⟩ = some (.slice none 0 0) := blk_cell HZ.out 1 _ rfl
    have q0 : w1.frozen? ⟨w.heap.size + 1, 0, none⟩ = false := blk_frozen HZ.out 0
    have q1 : w1.frozen? ⟨w.heap.size + 1, 1, none⟩ = false := blk_frozen HZ.out 1
    go_wp2_with fail
    refine (CP.out _ HB.out).mono ?_
    rintro e w2 ⟨v1, v2, rfl, o1, o2, hb2⟩
    obtain ⟨A1, k1, rfl, _, _, _⟩ := Rd.of_own o1
    have HXn := Lib.hid (blk_next hb2 HX.out)
    have HZn := Lib.hid (blk_next hb2 HZ.out)
    have HBn : Hid (Below w.heap.size w w2) := Lib.hid (Bgo HB.out hb2)
    have hz9 := blk_lt HZ.out
    rcases o2.2 with ⟨_, hbad⟩ | ⟨g, k2, cur, rfl, hg1, hg2, hg3, hg4, hg5, hg6⟩
    · omega
    have hgl : g < w2.heap.size := blk_lt hg2
    have hcj : w2.cell? ⟨g, j * 6 + 5, none⟩ = some (.string rs[j].why) := by
      rw [o2.cellAt (j * 6 + 5) (by omega)]
      unfold rlc
      rw [fm_get rl6 6 rl6_len rs j 5 hj (by omega)]; rfl
    have hfj : w2.frozen? ⟨g, j * 6 + 5, none⟩ = false := o2.frozenAt _
    have O1 := Lib.hid o1
    have O2 := Lib.hid o2
    have G := Lib.hid hg2
    have GB := Lib.hid hg1
    have hge : w1.heap.size ≤ g := hg1
    clear p0 p1 r0 r1 q0 q1 hg1 hg2 hg3 hg4 hg5 hg6 o1 o2 hb2 HX HZ HB
    have HX := HXn
    have HZ := HZn
    have HB := HBn
    clear HXn HZn HBn
    have p0 : w2.cell? ⟨w.heap.size, 0, none⟩ = some (.slice a l.length cap) := blk_cell HX.out 0 _ rfl
    have p1 : w2.cell? ⟨w.heap.size, 1, none⟩ = some (.slice a' rs.length cap') := blk_cell HX.out 1 _ rfl
    have r0 : w2.cell? ⟨w.heap.size + 1, 0, none⟩ = some (.slice none 0 0) := blk_cell HZ.out 0 _ rfl
    have r1 : w2.cell? ⟨w.heap.size + 1, 1, none⟩ = some (.slice none 0 0) := blk_cell HZ.out 1 _ rfl
    have q0 : w2.frozen? ⟨w.heap.size + 1, 0, none⟩ = false := blk_frozen HZ.out 0
    have q1 : w2.frozen? ⟨w.heap.size + 1, 1, none⟩ = false := blk_frozen HZ.out 1
    have d1 : ¬ g = w2.heap.size := by omega
    have d2 : ¬ w2.heap.size = g := by omega
    have d3 : ¬ g = w.heap.size + 1 := by omega
    have d4 : ¬ w.heap.size + 1 = g := by omega
    have d5 : ¬ w.heap.size + 1 = w2.heap.size := by omega
    have d6 : ¬ w2.heap.size = w.heap.size + 1 := by omega
    have d7 : w.heap.size + 1 < w2.heap.size := by omega
    have jm0 : (0 : Int) ≤ (j : Int) := by omega
    have jm1 : (j : Int) < (rs.length : Int) := by omega
    go_wp2_with fail
    have e1 : ((((w2.setCell ⟨g, j * 6 + 5, none⟩ (.string why)).setCell ⟨w.heap.size + 1, 0, none⟩ (.slice A1 l.length k1)).setCell ⟨w.heap.size + 1, 1, none⟩ (.slice (some ⟨g, 0, none⟩) rs.length k2)).alloc (.cells #[.slice A1 l.length k1, .slice (some ⟨g, 0, none⟩) rs.length k2] 25)).cell? ⟨w.heap.size + 1, 0, none⟩ = some (.slice A1 l.length k1) := blk_cell (blk_alloc (blk_set (blk_set (blk_set_other HZ.out d3 _ _) 0 _) 1 _) _) 0 _ rfl
    have e2 : ((((w2.setCell ⟨g, j * 6 + 5, none⟩ (.string why)).setCell ⟨w.heap.size + 1, 0, none⟩ (.slice A1 l.length k1)).setCell ⟨w.heap.size + 1, 1, none⟩ (.slice (some ⟨g, 0, none⟩) rs.length k2)).alloc (.cells #[.slice A1 l.length k1, .slice (some ⟨g, 0, none⟩) rs.length k2] 25)).cell? ⟨w.heap.size + 1, 1, none⟩ = some (.slice (some ⟨g, 0, none⟩) rs.length k2) := blk_cell (blk_alloc (blk_set (blk_set (blk_set_other HZ.out d3 _ _) 0 _) 1 _) _) 1 _ rfl
    refine bodyPost_ret (v := .tuple #[.agg #[.slice A1 l.length k1, .slice (some ⟨g, 0, none⟩) rs.length k2], .int .i64 0]) (by simp [results, Try.results23, go_sem, e1, e2]) rfl ?_
    rw [FE.out, FL.out, FR.out]
    have HLT : w.heap.size + 1 < w1.heap.size := hz9
    refine ⟨_, _, rfl, ?_, ?_, ?_⟩
    · refine World.ownsRow.mono (World.ownsRow.alloc (ownsRow_setCell_below (ownsRow_setCell_below (own_set_ne O1.out (own_ne O1.out G.out (by decide)) _ _) ?_ _) ?_ _) _) (by omega) <;> exact HLT
    · rw [ovR_len, ← rlc_set rs j hj why]
      refine World.ownsRow.mono (World.ownsRow.alloc (ownsRow_setCell_below (ownsRow_setCell_below (O2.out.stored _ _).1 ?_ _) ?_ _) _) (by omega) <;> exact HLT
    · exact Bal (Bset1 (Bset1 (Bset1 HB.out (by omega) _ _) (by omega) _ _) (by omega) _ _) _
end Go.Proofs.Ythmfjlphmamegaa
