/- Contracts of layer 43: Earliest, of the program and of the reference. -/
import Derived.Test.YthmfjlphmamegaaPl4
import Derived.Deep.LoopGhost
namespace Go.Proofs.Ythmfjlphmamegaa
open Go.ChangeShapes Go.WideShapes Go.ChangeAt Go.RowKit
set_option linter.unusedVariables false
attribute [local go_sem ↓] Go.wp_at_zero Go.wp_at_succ

def mv (s : Slt) (t : Nat) : Slt := {s with fr := s.fr + t, to := s.to + t}
def eaT (l : List Slt) (rs : List Rul) (s : Slt) : Option Nat := (List.range (1001 - s.to).toNat).find? (fun t => obeysB (l ++ [mv s t]) rs)
def eaW (s : Slt) (o : Option Nat) : Int × Int := match o with | some t => (s.fr + t, 0) | none => (0, 6)
def eaV (l : List Slt) (rs : List Rul) (s : Slt) : Int × Int := if adE l rs s ≠ 0 then (0, adE l rs s) else if obeysB l rs = false then (0, 36) else eaW s (eaT l rs s)
theorem mv_zero (s : Slt) : mv s 0 = s := by unfold mv; cases s; simp
theorem ad_ok {l : List Slt} {rs : List Rul} {s : Slt} (h : adE l rs s = 0) : checkE l rs = 0 ∧ checkE (l ++ [s]) rs = 0 := by
  unfold adE at h
  split at h
  · rename_i hh; exact absurd h hh
  · rename_i hh; exact ⟨by simpa using hh, h⟩
theorem dup_mv (l : List Slt) (s s' : Slt) (h : s'.name = s.name) : dupB (l ++ [s']) = dupB (l ++ [s]) := by
  have key : ∀ i, ((l ++ [s']).getD i d0).name = ((l ++ [s]).getD i d0).name := by
    intro i
    rcases Nat.lt_trichotomy i l.length with hi | hi | hi
    · simp [List.getD_eq_getElem?_getD, List.getElem?_append_left hi]
    · subst hi; simp [List.getD_eq_getElem?_getD, h]
    · rw [List.getD_eq_getElem?_getD, List.getD_eq_getElem?_getD, List.getElem?_eq_none (by simp; omega), List.getElem?_eq_none (by simp; omega)]
  unfold dupB
  simp only [List.length_append, List.length_cons, List.length_nil, key]
theorem okp_mv {l : List Slt} {rs : List Rul} {s : Slt} (h : checkE (l ++ [s]) rs = 0) (t : Nat) (ht : s.to + t ≤ 1000) : Okp (l ++ [mv s t]) rs := by
  have k := okp_of h
  have hlast : slotB s = true := by
    have := k.sl l.length (by simp)
    simpa using this
  refine ⟨by simpa using k.ls, k.rl, by rw [dup_mv l s (mv s t) rfl]; exact k.nd, ?_, k.ru⟩
  intro i hi
  by_cases hil : i < l.length
  · have := k.sl i (by simp; omega)
    rw [List.getElem_append_left hil] at this ⊢
    exact this
  · have e : i = l.length := by simp at hi; omega
    subst e
    rw [List.getElem_append_right (by omega)]
    simp only [Nat.sub_self, List.getElem_cons_zero]
    unfold slotB mv hourB at *
    simp only [Bool.and_eq_true, decide_eq_true_eq] at hlast ⊢
    refine ⟨hlast.1, hlast.2.1, ?_, ?_, ?_⟩ <;> omega
theorem find_none {n : Nat} {p : Nat → Bool} (h : ∀ t, t < n → p t = false) : (List.range n).find? p = none := by
  rw [List.find?_eq_none]; intro t ht; simp [h t (by simpa using ht)]
theorem find_first {n t : Nat} {p : Nat → Bool} (ht : t < n) (hp : p t = true) (h : ∀ u, u < t → p u = false) : (List.range n).find? p = some t := by
  rw [List.find?_range_eq_some]
  exact ⟨hp, by simpa using ht, fun j hj => by simpa using h j hj⟩
theorem slc_mv (l : List Slt) (s : Slt) (t : Nat) : ((slc (l ++ [mv s t])).set (l.length * 4 + 2) (.int .i64 (s.fr + t + 1))).set (l.length * 4 + 3) (.int .i64 (s.to + t + 1)) = slc (l ++ [mv s (t + 1)]) := by
  have e : (slc l).length = l.length * 4 := fm_len sl4 4 sl4_len l
  rw [slc_append, slc_append, List.set_append_right _ _ (by omega), e, List.set_append_right _ _ (by omega), e]
  have e2 : l.length * 4 + 2 - l.length * 4 = 2 := by omega
  have e3 : l.length * 4 + 3 - l.length * 4 = 3 := by omega
  rw [e2, e3]
  simp [slc, sl4, mv, Int.add_assoc]
theorem slc_put (l : List Slt) (X s : Slt) (t : Nat) : ((((slc (l ++ [X])).set (l.length * 4) (.string s.name)).set (l.length * 4 + 1) (.int .i64 s.st)).set (l.length * 4 + 2) (.int .i64 (s.fr + t))).set (l.length * 4 + 3) (.int .i64 (s.to + t)) = slc (l ++ [mv s t]) := by
  have e : (slc l).length = l.length * 4 := fm_len sl4 4 sl4_len l
  rw [slc_append, slc_append, List.set_append_right _ _ (by omega), e, List.set_append_right _ _ (by omega), e, List.set_append_right _ _ (by omega), e, List.set_append_right _ _ (by omega), e]
  have e0 : l.length * 4 - l.length * 4 = 0 := by omega
  have e1 : l.length * 4 + 1 - l.length * 4 = 1 := by omega
  have e2 : l.length * 4 + 2 - l.length * 4 = 2 := by omega
  have e3 : l.length * 4 + 3 - l.length * 4 = 3 := by omega
  rw [e0, e1, e2, e3]
  simp [slc, sl4, mv]
theorem slc_last (l : List Slt) (s : Slt) (j : Nat) (hj : j < 4) : (slc (l ++ [s]))[l.length * 4 + j]? = (sl4 s)[j]? := by
  have := fm_get sl4 4 sl4_len (l ++ [s]) l.length j (by simp) hj
  rw [show slc (l ++ [s]) = (l ++ [s]).flatMap sl4 from rfl, this]
  simp
set_option maxHeartbeats 4000000 in
set_option maxRecDepth 100000 in
theorem earliest_calls (a : Option Addr) (cap : Nat) (l : List Slt) (a' : Option Addr) (cap' : Nat) (rs : List Rul) (w : World) (hn : l.length ≤ cap) (hcap : cap ≤ 9223372036854775807) (hs : SlotsIn w a l)
    (hn' : rs.length ≤ cap') (hcap' : cap' ≤ 9223372036854775807) (hr : RulesIn w a' rs) (s : Slt) :
    Calls Try.prog 26 #[Pv a l.length cap a' rs.length cap', Sv s] w fun e w' => e = .returned (.tuple #[.int .i64 (eaV l rs s).1, .int .i64 (eaV l rs s).2]) ∧ Below w.heap.size w w' := by
  have HS := Lib.hid hs
  have HR := Lib.hid hr
  clear hs hr
  have AD := Lib.hid (fun (W : World) (hW : Below w.heap.size w W) => add_calls a cap l a' cap' rs W hn hcap (HS.out.next hW) hn' hcap' (HR.out.next hW) s)
  by_cases hE : adE l rs s = 0
  case neg =>
    have F : Hid (eaV l rs s = (0, adE l rs s)) := Lib.hid (by unfold eaV; rw [if_pos hE])
    generalize eaV l rs s = V at *
    generalize adL l rs s = L at *
    generalize adR l rs s = RS at *
    generalize adE l rs s = ce at *
    have hne : (ce != 0) = true := by simpa using hE
    go_enter Try.func26, Try.ntmps26
    go_wp2_with fail
    refine (AD.out _ (Bal (Bal (Below.refl _ _) _) _)).mono ?_
    rintro e w1 ⟨v1, v2, rfl, o1, o2, hb⟩
    obtain ⟨A1, k1, rfl, _, _, _⟩ := Rd.of_own o1
    obtain ⟨A2, k2, rfl, _, _, _⟩ := Rd.of_own o2
    have HB : Hid (Below w.heap.size w w1) := Lib.hid (Bgo (Bal (Bal (Below.refl _ _) _) _) hb)
    clear hb o1 o2
    go_wp2_with fail
    go_ret2
    exact ⟨by rw [F.out]; rfl, Bal HB.out _⟩
  case pos =>
    obtain ⟨g1, g2⟩ := ad_ok hE
    have OK := okp_of g1
    have OK2 := okp_of g2
    have h20 := OK.ls
    have h20' := OK.rl
    have hsv : slotB s = true := by
      have := OK2.sl l.length (by simp)
      simpa using this
    obtain ⟨⟨t1, t2, t3, t4⟩, t5, t6, t7⟩ := slot_times hsv
    have HG := Lib.hid g2
    have OB := Lib.hid (fun (W : World) (hW : Below w.heap.size w W) => obeys_calls a cap l a' cap' rs W hn hcap (HS.out.next hW) hn' hcap' (HR.out.next hW) OK)
    have AD2 : Hid (∀ (W : World), Below w.heap.size w W → Calls Try.prog 24 #[Pv a l.length cap a' rs.length cap', Sv s] W (PlanEPost W (l ++ [s]) rs 0)) := Lib.hid (fun W hW => by
      have := AD.out W hW
      unfold adL adR at this
      rw [hE, if_pos rfl, if_pos rfl] at this
      exact this)
    have F : Hid (eaV l rs s = if obeysB l rs = false then (0, 36) else eaW s (eaT l rs s)) := Lib.hid (by unfold eaV; rw [if_neg (by simpa using hE)])
    generalize eaV l rs s = V at *
    clear hE g1 g2 OK OK2 hsv AD
    cases hO : obeysB l rs
    case false =>
      rw [hO] at OB
      have F2 : Hid (V = (0, 36)) := Lib.hid (by rw [F.out, hO]; rfl)
      clear F hO
      go_enter Try.func26, Try.ntmps26
      go_wp2_with fail
      refine (AD2.out _ (Bal (Bal (Below.refl _ _) _) _)).mono ?_
      rintro e w1 ⟨v1, v2, rfl, o1, o2, hb⟩
      rw [List.length_append] at o1
      obtain ⟨A1, k1, rfl, y1, y2, _⟩ := Rd.of_own o1
      obtain ⟨A2, k2, rfl, y3, y4, _⟩ := Rd.of_own o2
      have HX : Hid (w1.heap[w.heap.size]? = some (.cells #[.slice a l.length cap, .slice a' rs.length cap'] 25)) := Lib.hid (blk_next hb (blk1 w _ _))
      have HY : Hid (w1.heap[w.heap.size + 1]? = some (.cells #[.string s.name, .int .i64 s.st, .int .i64 s.fr, .int .i64 s.to] 47)) := Lib.hid (blk_next hb (blk2 w _ _))
      have HB : Hid (Below w.heap.size w w1) := Lib.hid (Bgo (Bal (Bal (Below.refl _ _) _) _) hb)
      have p0 : w1.cell? ⟨w.heap.size, 0, none⟩ = some (.slice a l.length cap) := blk_cell HX.out 0 _ rfl
      have p1 : w1.cell? ⟨w.heap.size, 1, none⟩ = some (.slice a' rs.length cap') := blk_cell HX.out 1 _ rfl
      have px := blk_lt HX.out
      simp only [List.length_cons, List.length_nil, Nat.zero_add] at o1 y1 y2 y3 y4 ⊢
      clear hb
      go_wp2_with fail
      refine (OB.out _ (Bal HB.out _)).mono ?_
      rintro e w2 ⟨rfl, hb2⟩
      have HB2 : Hid (Below w.heap.size w w2) := Lib.hid (Bgo (Bal HB.out _) hb2)
      clear hb2
      go_wp2_with fail
      go_ret2
      exact ⟨by rw [F2.out]; rfl, HB2.out⟩
    case true =>
      rw [hO] at OB
      have F2 : Hid (V = eaW s (eaT l rs s)) := Lib.hid (by rw [F.out, hO]; rfl)
      clear F hO
      go_enter Try.func26, Try.ntmps26
      go_wp2_with fail
      refine (AD2.out _ (Bal (Bal (Below.refl _ _) _) _)).mono ?_
      rintro e w1 ⟨v1, v2, rfl, o1, o2, hb⟩
      rw [List.length_append] at o1
      obtain ⟨A1, k1, rfl, y1, y2, _⟩ := Rd.of_own o1
      obtain ⟨A2, k2, rfl, y3, y4, _⟩ := Rd.of_own o2
      have HX : Hid (w1.heap[w.heap.size]? = some (.cells #[.slice a l.length cap, .slice a' rs.length cap'] 25)) := Lib.hid (blk_next hb (blk1 w _ _))
      have HY : Hid (w1.heap[w.heap.size + 1]? = some (.cells #[.string s.name, .int .i64 s.st, .int .i64 s.fr, .int .i64 s.to] 47)) := Lib.hid (blk_next hb (blk2 w _ _))
      have HB : Hid (Below w.heap.size w w1) := Lib.hid (Bgo (Bal (Bal (Below.refl _ _) _) _) hb)
      have p0 : w1.cell? ⟨w.heap.size, 0, none⟩ = some (.slice a l.length cap) := blk_cell HX.out 0 _ rfl
      have p1 : w1.cell? ⟨w.heap.size, 1, none⟩ = some (.slice a' rs.length cap') := blk_cell HX.out 1 _ rfl
      have px := blk_lt HX.out
      simp only [List.length_cons, List.length_nil, Nat.zero_add] at o1 y1 y2 y3 y4 ⊢
      clear hb
      go_wp2_with fail
      refine (OB.out _ (Bal HB.out _)).mono ?_
      rintro e w2 ⟨rfl, hb2⟩
      have HB2 : Hid (Below w.heap.size w w2) := Lib.hid (Bgo (Bal HB.out _) hb2)
      have HC2 : Hid (w2.heap[w1.heap.size]? = some (.cells #[.slice A1 (l.length + 1) k1, .slice A2 rs.length k2] 25)) := Lib.hid (blk_next hb2 (blk_new w1 _))
      have HY2 : Hid (w2.heap[w.heap.size + 1]? = some (.cells #[.string s.name, .int .i64 s.st, .int .i64 s.fr, .int .i64 s.to] 47)) := Lib.hid (blk_next hb2 (blk_alloc HY.out _))
      have O1 : Hid (w2.ownsRow (w.heap.size + 2) 47 4 (.slice A1 (l.length + 1) k1) (l.length + 1) (slc (l ++ [s]))) := Lib.hid (own_next hb2 ((o1.mono (by simp)).alloc _))
      have O2 : Hid (w2.ownsRow (w.heap.size + 2) 61 6 (.slice A2 rs.length k2) rs.length (rlc rs)) := Lib.hid (own_next hb2 ((o2.mono (by simp)).alloc _))
      have hz9 := blk_lt HY.out
      clear hb2 o1 o2 HB HX HY
      have c0 : w2.cell? ⟨w1.heap.size, 0, none⟩ = some (.slice A1 (l.length + 1) k1) := blk_cell HC2.out 0 _ rfl
      rcases O1.out.2 with ⟨_, hbad⟩ | ⟨g, k1', cur, hv, hgb, _, _, _, _, _⟩
      · omega
      simp only [Value.slice.injEq, true_and] at hv
      obtain ⟨rfl, rfl⟩ := hv
      clear hgb
      have OC : Hid (∀ (t : Nat) (W : World), s.to + t ≤ 1000 → W.ownsRow (w.heap.size + 2) 47 4 (.slice (some ⟨g, 0, none⟩) (l.length + 1) k1) (l.length + 1) (slc (l ++ [mv s t])) → W.ownsRow (w.heap.size + 2) 61 6 (.slice A2 rs.length k2) rs.length (rlc rs) → Calls Try.prog 37 #[Pv (some ⟨g, 0, none⟩) (l.length + 1) k1 A2 rs.length k2] W fun e w' => e = .returned (.bool (obeysB (l ++ [mv s t]) rs)) ∧ Below W.heap.size W w') := Lib.hid (fun t W g1 g2 g3 => by
        have := obeys_calls (some ⟨g, 0, none⟩) k1 (l ++ [mv s t]) A2 k2 rs W (by simpa using y1) y2 (Rd.slots (by simpa using own_rd g2)) y3 y4 (Rd.rules (own_rd g3)) (okp_mv HG.out t g1)
        simpa using this)
      clear OB AD2 HG
      go_wp2_with fail
      go_loopg [25] (1001 - s.to).toNat (fun gk _ wr => ∃ t : Nat, t ≤ (1001 - s.to).toNat ∧ gk = (1001 - s.to).toNat - t ∧ Hid (Below w.heap.size w wr) ∧ Hid (wr.heap[w1.heap.size]? = some (.cells #[.slice (some ⟨g, 0, none⟩) (l.length + 1) k1, .slice A2 rs.length k2] 25)) ∧ Hid (wr.ownsRow (w.heap.size + 2) 47 4 (.slice (some ⟨g, 0, none⟩) (l.length + 1) k1) (l.length + 1) (slc (l ++ [mv s t]))) ∧ Hid (wr.ownsRow (w.heap.size + 2) 61 6 (.slice A2 rs.length k2) rs.length (rlc rs)) ∧ Hid (∀ u, u < t → obeysB (l ++ [mv s u]) rs = false))
      case atStart => exact ⟨0, by omega, by omega, HB2, HC2, Lib.hid (by rw [mv_zero]; exact O1.out), O2, Lib.hid (by omega)⟩
      case round =>
        obtain ⟨t, ht, hgk, HB3, HC3, P1, P2, HN⟩ := hrel
        have HGK := Lib.hid hgk
        clear hgk c0
        have c0 : wr.cell? ⟨w1.heap.size, 0, none⟩ = some (.slice (some ⟨g, 0, none⟩) (l.length + 1) k1) := blk_cell HC3.out 0 _ rfl
        have c1 : wr.cell? ⟨w1.heap.size, 1, none⟩ = some (.slice A2 rs.length k2) := blk_cell HC3.out 1 _ rfl
        have f2 : wr.cell? ⟨g, l.length * 4 + 2, none⟩ = some (.int .i64 (s.fr + t)) := by
          rw [P1.out.cellAt (l.length * 4 + 2) (by omega), slc_last l (mv s t) 2 (by omega)]; rfl
        have f3 : wr.cell? ⟨g, l.length * 4 + 3, none⟩ = some (.int .i64 (s.to + t)) := by
          rw [P1.out.cellAt (l.length * 4 + 3) (by omega), slc_last l (mv s t) 3 (by omega)]; rfl
        have km0 : (0 : Int) ≤ (l.length : Int) := by omega
        have km1 : (l.length : Int) < (l.length : Int) + 1 := by omega
        by_cases hlt : s.to + t ≤ 1000
        · go_wp2_with fail
          refine (OC.out t _ hlt P1.out P2.out).mono ?_
          rintro e w3 ⟨rfl, hb3⟩
          have HB4 : Hid (Below w.heap.size w w3) := Lib.hid (Bgo HB3.out hb3)
          have HC4 : Hid (w3.heap[w1.heap.size]? = some (.cells #[.slice (some ⟨g, 0, none⟩) (l.length + 1) k1, .slice A2 rs.length k2] 25)) := Lib.hid (blk_next hb3 HC3.out)
          have Q1 := Lib.hid (own_next hb3 P1.out)
          have Q2 := Lib.hid (own_next hb3 P2.out)
          have hgl : g < w3.heap.size := (Q1.out.lt g rfl).2
          have hgb : w.heap.size + 2 ≤ g := (Q1.out.lt g rfl).1
          clear hb3 c0 c1 f2 f3
          have c0 : w3.cell? ⟨w1.heap.size, 0, none⟩ = some (.slice (some ⟨g, 0, none⟩) (l.length + 1) k1) := blk_cell HC4.out 0 _ rfl
          have f2 : w3.cell? ⟨g, l.length * 4 + 2, none⟩ = some (.int .i64 (s.fr + t)) := by
            rw [Q1.out.cellAt (l.length * 4 + 2) (by omega), slc_last l (mv s t) 2 (by omega)]; rfl
          have f3 : w3.cell? ⟨g, l.length * 4 + 3, none⟩ = some (.int .i64 (s.to + t)) := by
            rw [Q1.out.cellAt (l.length * 4 + 3) (by omega), slc_last l (mv s t) 3 (by omega)]; rfl
          have q2 : w3.frozen? ⟨g, l.length * 4 + 2, none⟩ = false := Q1.out.frozenAt _
          have q3 : w3.frozen? ⟨g, l.length * 4 + 3, none⟩ = false := Q1.out.frozenAt _
          have HM := Lib.hid (show ∀ u, obeysB (l ++ [mv s u]) rs = obeysB (l ++ [mv s u]) rs from fun _ => rfl)
          cases hob : obeysB (l ++ [mv s t]) rs
          · have HOB := Lib.hid hob
            have dne : ¬ w1.heap.size = g := by
              intro h; have := own_ne Q1.out HC4.out (by decide); rw [h] at this; exact this rfl
            have dne' : ¬ g = w1.heap.size := fun h => dne h.symm
            go_wp2_with fail
            go_roundg ((1001 - s.to).toNat - (t + 1))
            case rel =>
              refine ⟨t + 1, by omega, rfl, Lib.hid (Bset1 (Bset1 HB4.out (by omega) _ _) (by omega) _ _), Lib.hid (blk_set_other (blk_set_other HC4.out dne' _ _) dne' _ _), Lib.hid ?_, Lib.hid ?_, Lib.hid ?_⟩
              · rw [← slc_mv]
                have := ((Q1.out.stored (l.length * 4 + 2) (.int .i64 (s.fr + t + 1))).1.stored (l.length * 4 + 3) (.int .i64 (s.to + t + 1))).1
                simpa using this
              · have hne : (Value.slice A2 rs.length k2).ownBlock ≠ some g := by
                  rcases own_own Q1.out Q2.out (by decide) with h | h
                  · rw [h]; simp
                  · exact h
                exact own_set_ne (own_set_ne Q2.out hne _ _) hne _ _
              · intro u hu
                by_cases e : u = t
                · subst e; exact HOB.out
                · exact HN.out u (by omega)
            case measure => have := HGK.out; omega
          · have HOB := Lib.hid hob
            go_wp2_with fail
            go_ret2
            refine ⟨?_, HB4.out⟩
            have : eaT l rs s = some t := find_first (by omega) HOB.out HN.out
            rw [F2.out, this]; rfl
        · go_wp2_with fail
          go_ret2
          refine ⟨?_, HB3.out⟩
          have : eaT l rs s = none := find_none (fun u hu => HN.out u (by omega))
          rw [F2.out, this]; rfl
set_option maxHeartbeats 4000000 in
set_option maxRecDepth 100000 in
theorem refEarliest_calls (a : Option Addr) (cap : Nat) (l : List Slt) (a' : Option Addr) (cap' : Nat) (rs : List Rul) (w : World) (hn : l.length ≤ cap) (hcap : cap ≤ 9223372036854775807) (hs : SlotsIn w a l)
    (hn' : rs.length ≤ cap') (hcap' : cap' ≤ 9223372036854775807) (hr : RulesIn w a' rs) (s : Slt) :
    Calls Try.prog 27 #[Pv a l.length cap a' rs.length cap', Sv s] w fun e w' => e = .returned (.tuple #[.int .i64 (eaV l rs s).1, .int .i64 (eaV l rs s).2]) ∧ Below w.heap.size w w' := by
  have HS := Lib.hid hs
  have HR := Lib.hid hr
  clear hs hr
  have AD := Lib.hid (fun (W : World) (hW : Below w.heap.size w W) => refAdd_calls a cap l a' cap' rs W hn hcap (HS.out.next hW) hn' hcap' (HR.out.next hW) s)
  by_cases hE : adE l rs s = 0
  case neg =>
    have F : Hid (eaV l rs s = (0, adE l rs s)) := Lib.hid (by unfold eaV; rw [if_pos hE])
    generalize eaV l rs s = V at *
    generalize adL l rs s = L at *
    generalize adR l rs s = RS at *
    generalize adE l rs s = ce at *
    have hne : (ce != 0) = true := by simpa using hE
    go_enter Try.func27, Try.ntmps27
    go_wp2_with fail
    refine (AD.out _ (Bal (Bal (Below.refl _ _) _) _)).mono ?_
    rintro e w1 ⟨v1, v2, rfl, o1, o2, hb⟩
    obtain ⟨A1, k1, rfl, _, _, _⟩ := Rd.of_own o1
    obtain ⟨A2, k2, rfl, _, _, _⟩ := Rd.of_own o2
    have HB : Hid (Below w.heap.size w w1) := Lib.hid (Bgo (Bal (Bal (Below.refl _ _) _) _) hb)
    clear hb o1 o2
    go_wp2_with fail
    go_ret2
    exact ⟨by rw [F.out]; rfl, Bal HB.out _⟩
  case pos =>
    obtain ⟨g1, g2⟩ := ad_ok hE
    have OK := okp_of g1
    have OK2 := okp_of g2
    have h20 := OK.ls
    have h20' := OK.rl
    have hsv : slotB s = true := by
      have := OK2.sl l.length (by simp)
      simpa using this
    obtain ⟨⟨t1, t2, t3, t4⟩, t5, t6, t7⟩ := slot_times hsv
    have HG := Lib.hid g2
    have OB := Lib.hid (fun (W : World) (hW : Below w.heap.size w W) => refObeys_calls a cap l a' cap' rs W hn hcap (HS.out.next hW) hn' hcap' (HR.out.next hW) OK)
    have AD2 : Hid (∀ (W : World), Below w.heap.size w W → Calls Try.prog 25 #[Pv a l.length cap a' rs.length cap', Sv s] W (PlanEPost W (l ++ [s]) rs 0)) := Lib.hid (fun W hW => by
      have := AD.out W hW
      unfold adL adR at this
      rw [hE, if_pos rfl, if_pos rfl] at this
      exact this)
    have F : Hid (eaV l rs s = if obeysB l rs = false then (0, 36) else eaW s (eaT l rs s)) := Lib.hid (by unfold eaV; rw [if_neg (by simpa using hE)])
    generalize eaV l rs s = V at *
    clear hE g1 g2 OK OK2 hsv AD
    cases hO : obeysB l rs
    case false =>
      rw [hO] at OB
      have F2 : Hid (V = (0, 36)) := Lib.hid (by rw [F.out, hO]; rfl)
      clear F hO
      go_enter Try.func27, Try.ntmps27
      go_wp2_with fail
      refine (AD2.out _ (Bal (Bal (Below.refl _ _) _) _)).mono ?_
      rintro e w1 ⟨v1, v2, rfl, o1, o2, hb⟩
      rw [List.length_append] at o1
      obtain ⟨A1, k1, rfl, y1, y2, _⟩ := Rd.of_own o1
      obtain ⟨A2, k2, rfl, y3, y4, _⟩ := Rd.of_own o2
      have HX : Hid (w1.heap[w.heap.size]? = some (.cells #[.slice a l.length cap, .slice a' rs.length cap'] 25)) := Lib.hid (blk_next hb (blk1 w _ _))
      have HY : Hid (w1.heap[w.heap.size + 1]? = some (.cells #[.string s.name, .int .i64 s.st, .int .i64 s.fr, .int .i64 s.to] 47)) := Lib.hid (blk_next hb (blk2 w _ _))
      have HB : Hid (Below w.heap.size w w1) := Lib.hid (Bgo (Bal (Bal (Below.refl _ _) _) _) hb)
      have p0 : w1.cell? ⟨w.heap.size, 0, none⟩ = some (.slice a l.length cap) := blk_cell HX.out 0 _ rfl
      have p1 : w1.cell? ⟨w.heap.size, 1, none⟩ = some (.slice a' rs.length cap') := blk_cell HX.out 1 _ rfl
      have px := blk_lt HX.out
      simp only [List.length_cons, List.length_nil, Nat.zero_add] at o1 y1 y2 y3 y4 ⊢
      clear hb
      go_wp2_with fail
      refine (OB.out _ (Bal HB.out _)).mono ?_
      rintro e w2 ⟨rfl, hb2⟩
      have HB2 : Hid (Below w.heap.size w w2) := Lib.hid (Bgo (Bal HB.out _) hb2)
      clear hb2
      go_wp2_with fail
      go_ret2
      exact ⟨by rw [F2.out]; rfl, HB2.out⟩
    case true =>
      rw [hO] at OB
      have F2 : Hid (V = eaW s (eaT l rs s)) := Lib.hid (by rw [F.out, hO]; rfl)
      clear F hO
      go_enter Try.func27, Try.ntmps27
      go_wp2_with fail
      refine (AD2.out _ (Bal (Bal (Below.refl _ _) _) _)).mono ?_
      rintro e w1 ⟨v1, v2, rfl, o1, o2, hb⟩
      rw [List.length_append] at o1
      obtain ⟨A1, k1, rfl, y1, y2, _⟩ := Rd.of_own o1
      obtain ⟨A2, k2, rfl, y3, y4, _⟩ := Rd.of_own o2
      have HX : Hid (w1.heap[w.heap.size]? = some (.cells #[.slice a l.length cap, .slice a' rs.length cap'] 25)) := Lib.hid (blk_next hb (blk1 w _ _))
      have HY : Hid (w1.heap[w.heap.size + 1]? = some (.cells #[.string s.name, .int .i64 s.st, .int .i64 s.fr, .int .i64 s.to] 47)) := Lib.hid (blk_next hb (blk2 w _ _))
      have HB : Hid (Below w.heap.size w w1) := Lib.hid (Bgo (Bal (Bal (Below.refl _ _) _) _) hb)
      have p0 : w1.cell? ⟨w.heap.size, 0, none⟩ = some (.slice a l.length cap) := blk_cell HX.out 0 _ rfl
      have p1 : w1.cell? ⟨w.heap.size, 1, none⟩ = some (.slice a' rs.length cap') := blk_cell HX.out 1 _ rfl
      have px := blk_lt HX.out
      simp only [List.length_cons, List.length_nil, Nat.zero_add] at o1 y1 y2 y3 y4 ⊢
      clear hb
      go_wp2_with fail
      refine (OB.out _ (Bal HB.out _)).mono ?_
      rintro e w2 ⟨rfl, hb2⟩
      have HB2 : Hid (Below w.heap.size w w2) := Lib.hid (Bgo (Bal HB.out _) hb2)
      have HC2 : Hid (w2.heap[w1.heap.size]? = some (.cells #[.slice A1 (l.length + 1) k1, .slice A2 rs.length k2] 25)) := Lib.hid (blk_next hb2 (blk_new w1 _))
      have HY2 : Hid (w2.heap[w.heap.size + 1]? = some (.cells #[.string s.name, .int .i64 s.st, .int .i64 s.fr, .int .i64 s.to] 47)) := Lib.hid (blk_next hb2 (blk_alloc HY.out _))
      have O1 : Hid (w2.ownsRow (w.heap.size + 2) 47 4 (.slice A1 (l.length + 1) k1) (l.length + 1) (slc (l ++ [s]))) := Lib.hid (own_next hb2 ((o1.mono (by simp)).alloc _))
      have O2 : Hid (w2.ownsRow (w.heap.size + 2) 61 6 (.slice A2 rs.length k2) rs.length (rlc rs)) := Lib.hid (own_next hb2 ((o2.mono (by simp)).alloc _))
      have hz9 := blk_lt HY.out
      clear hb2 o1 o2 HB HX HY
      have c0 : w2.cell? ⟨w1.heap.size, 0, none⟩ = some (.slice A1 (l.length + 1) k1) := blk_cell HC2.out 0 _ rfl
      rcases O1.out.2 with ⟨_, hbad⟩ | ⟨g, k1', cur, hv, hgb, _, _, _, _, _⟩
      · omega
      simp only [Value.slice.injEq, true_and] at hv
      obtain ⟨rfl, rfl⟩ := hv
      clear hgb
      have OC : Hid (∀ (t : Nat) (W : World), s.to + t ≤ 1000 → W.ownsRow (w.heap.size + 2) 47 4 (.slice (some ⟨g, 0, none⟩) (l.length + 1) k1) (l.length + 1) (slc (l ++ [mv s t])) → W.ownsRow (w.heap.size + 2) 61 6 (.slice A2 rs.length k2) rs.length (rlc rs) → Calls Try.prog 38 #[Pv (some ⟨g, 0, none⟩) (l.length + 1) k1 A2 rs.length k2] W fun e w' => e = .returned (.bool (obeysB (l ++ [mv s t]) rs)) ∧ Below W.heap.size W w') := Lib.hid (fun t W g1 g2 g3 => by
        have := refObeys_calls (some ⟨g, 0, none⟩) k1 (l ++ [mv s t]) A2 k2 rs W (by simpa using y1) y2 (Rd.slots (by simpa using own_rd g2)) y3 y4 (Rd.rules (own_rd g3)) (okp_mv HG.out t g1)
        simpa using this)
      clear OB AD2 HG
      go_wp2_with fail
      go_loopg [25] (1001 - s.to).toNat (fun gk _ wr => ∃ (t : Nat) (X : Slt), t ≤ (1001 - s.to).toNat ∧ gk = (1001 - s.to).toNat - t ∧ Hid (Below w.heap.size w wr) ∧ Hid (wr.heap[w1.heap.size]? = some (.cells #[.slice (some ⟨g, 0, none⟩) (l.length + 1) k1, .slice A2 rs.length k2] 25)) ∧ Hid (wr.heap[w.heap.size + 1]? = some (.cells #[.string s.name, .int .i64 s.st, .int .i64 (s.fr + t), .int .i64 (s.to + t)] 47)) ∧ Hid (wr.ownsRow (w.heap.size + 2) 47 4 (.slice (some ⟨g, 0, none⟩) (l.length + 1) k1) (l.length + 1) (slc (l ++ [X]))) ∧ Hid (wr.ownsRow (w.heap.size + 2) 61 6 (.slice A2 rs.length k2) rs.length (rlc rs)) ∧ Hid (∀ u, u < t → obeysB (l ++ [mv s u]) rs = false))
      case atStart => exact ⟨0, s, by omega, by omega, HB2, HC2, Lib.hid (by simpa using HY2.out), O1, O2, Lib.hid (by omega)⟩
      case round =>
        obtain ⟨t, X, ht, hgk, HB3, HC3, HY3, P1, P2, HN⟩ := hrel
        have HGK := Lib.hid hgk
        clear hgk c0
        have c0 : wr.cell? ⟨w1.heap.size, 0, none⟩ = some (.slice (some ⟨g, 0, none⟩) (l.length + 1) k1) := blk_cell HC3.out 0 _ rfl
        have c1 : wr.cell? ⟨w1.heap.size, 1, none⟩ = some (.slice A2 rs.length k2) := blk_cell HC3.out 1 _ rfl
        have s0 : wr.cell? ⟨w.heap.size + 1, 0, none⟩ = some (.string s.name) := blk_cell HY3.out 0 _ rfl
        have s1 : wr.cell? ⟨w.heap.size + 1, 1, none⟩ = some (.int .i64 s.st) := blk_cell HY3.out 1 _ rfl
        have s2 : wr.cell? ⟨w.heap.size + 1, 2, none⟩ = some (.int .i64 (s.fr + t)) := blk_cell HY3.out 2 _ rfl
        have s3 : wr.cell? ⟨w.heap.size + 1, 3, none⟩ = some (.int .i64 (s.to + t)) := blk_cell HY3.out 3 _ rfl
        have f0 : wr.cell? ⟨g, l.length * 4, none⟩ = some (.string X.name) := by
          rw [P1.out.cellAt (l.length * 4) (by omega)]; exact slc_last l X 0 (by omega)
        have f1 : wr.cell? ⟨g, l.length * 4 + 1, none⟩ = some (.int .i64 X.st) := by
          rw [P1.out.cellAt (l.length * 4 + 1) (by omega), slc_last l X 1 (by omega)]; rfl
        have f2 : wr.cell? ⟨g, l.length * 4 + 2, none⟩ = some (.int .i64 X.fr) := by
          rw [P1.out.cellAt (l.length * 4 + 2) (by omega), slc_last l X 2 (by omega)]; rfl
        have f3 : wr.cell? ⟨g, l.length * 4 + 3, none⟩ = some (.int .i64 X.to) := by
          rw [P1.out.cellAt (l.length * 4 + 3) (by omega), slc_last l X 3 (by omega)]; rfl
        have q0 : wr.frozen? ⟨g, l.length * 4, none⟩ = false := P1.out.frozenAt _
        have q1 : wr.frozen? ⟨g, l.length * 4 + 1, none⟩ = false := P1.out.frozenAt _
        have q2 : wr.frozen? ⟨g, l.length * 4 + 2, none⟩ = false := P1.out.frozenAt _
        have q3 : wr.frozen? ⟨g, l.length * 4 + 3, none⟩ = false := P1.out.frozenAt _
        have km0 : (0 : Int) ≤ (l.length : Int) := by omega
        have km1 : (l.length : Int) < (l.length : Int) + 1 := by omega
        have hgl : g < wr.heap.size := (P1.out.lt g rfl).2
        have hgb : w.heap.size + 2 ≤ g := (P1.out.lt g rfl).1
        have dne : ¬ w1.heap.size = g := by
          intro h; have := own_ne P1.out HC3.out (by decide); rw [h] at this; exact this rfl
        have dne' : ¬ g = w1.heap.size := fun h => dne h.symm
        have dy : ¬ w.heap.size + 1 = g := by omega
        have dy' : ¬ g = w.heap.size + 1 := by omega
        have hneP : (Value.slice A2 rs.length k2).ownBlock ≠ some g := by
          rcases own_own P1.out P2.out (by decide) with h | h
          · rw [h]; simp
          · exact h
        have HNP := Lib.hid hneP
        clear hneP
        by_cases hlt : s.to + t ≤ 1000
        · go_wp2_with fail
          have HB3' : Hid (Below w.heap.size w ((((wr.setCell ⟨g, l.length * 4, none⟩ (.string s.name)).setCell ⟨g, l.length * 4 + 1, none⟩ (.int .i64 s.st)).setCell ⟨g, l.length * 4 + 2, none⟩ (.int .i64 (s.fr + t))).setCell ⟨g, l.length * 4 + 3, none⟩ (.int .i64 (s.to + t)))) := Lib.hid (Bset1 (Bset1 (Bset1 (Bset1 HB3.out (by omega) _ _) (by omega) _ _) (by omega) _ _) (by omega) _ _)
          have HC3' : Hid (((((wr.setCell ⟨g, l.length * 4, none⟩ (.string s.name)).setCell ⟨g, l.length * 4 + 1, none⟩ (.int .i64 s.st)).setCell ⟨g, l.length * 4 + 2, none⟩ (.int .i64 (s.fr + t))).setCell ⟨g, l.length * 4 + 3, none⟩ (.int .i64 (s.to + t))).heap[w1.heap.size]? = some (.cells #[.slice (some ⟨g, 0, none⟩) (l.length + 1) k1, .slice A2 rs.length k2] 25)) := Lib.hid (blk_set_other (blk_set_other (blk_set_other (blk_set_other HC3.out dne' _ _) dne' _ _) dne' _ _) dne' _ _)
          have HY3' : Hid (((((wr.setCell ⟨g, l.length * 4, none⟩ (.string s.name)).setCell ⟨g, l.length * 4 + 1, none⟩ (.int .i64 s.st)).setCell ⟨g, l.length * 4 + 2, none⟩ (.int .i64 (s.fr + t))).setCell ⟨g, l.length * 4 + 3, none⟩ (.int .i64 (s.to + t))).heap[w.heap.size + 1]? = some (.cells #[.string s.name, .int .i64 s.st, .int .i64 (s.fr + t), .int .i64 (s.to + t)] 47)) := Lib.hid (blk_set_other (blk_set_other (blk_set_other (blk_set_other HY3.out dy' _ _) dy' _ _) dy' _ _) dy' _ _)
          have P1' : Hid (((((wr.setCell ⟨g, l.length * 4, none⟩ (.string s.name)).setCell ⟨g, l.length * 4 + 1, none⟩ (.int .i64 s.st)).setCell ⟨g, l.length * 4 + 2, none⟩ (.int .i64 (s.fr + t))).setCell ⟨g, l.length * 4 + 3, none⟩ (.int .i64 (s.to + t))).ownsRow (w.heap.size + 2) 47 4 (.slice (some ⟨g, 0, none⟩) (l.length + 1) k1) (l.length + 1) (slc (l ++ [mv s t]))) := Lib.hid (by
            have := ((((P1.out.stored (l.length * 4) (.string s.name)).1.stored (l.length * 4 + 1) (.int .i64 s.st)).1.stored (l.length * 4 + 2) (.int .i64 (s.fr + t))).1.stored (l.length * 4 + 3) (.int .i64 (s.to + t))).1
            rw [slc_put] at this
            exact this)
          have P2' : Hid (((((wr.setCell ⟨g, l.length * 4, none⟩ (.string s.name)).setCell ⟨g, l.length * 4 + 1, none⟩ (.int .i64 s.st)).setCell ⟨g, l.length * 4 + 2, none⟩ (.int .i64 (s.fr + t))).setCell ⟨g, l.length * 4 + 3, none⟩ (.int .i64 (s.to + t))).ownsRow (w.heap.size + 2) 61 6 (.slice A2 rs.length k2) rs.length (rlc rs)) := Lib.hid (own_set_ne (own_set_ne (own_set_ne (own_set_ne P2.out HNP.out _ _) HNP.out _ _) HNP.out _ _) HNP.out _ _)
          clear c0 c1 s0 s1 s2 s3 f0 f1 f2 f3 q0 q1 q2 q3 HB3 HC3 HY3 P1 P2 hgl
          generalize (((wr.setCell ⟨g, l.length * 4, none⟩ (.string s.name)).setCell ⟨g, l.length * 4 + 1, none⟩ (.int .i64 s.st)).setCell ⟨g, l.length * 4 + 2, none⟩ (.int .i64 (s.fr + t))).setCell ⟨g, l.length * 4 + 3, none⟩ (.int .i64 (s.to + t)) = wr2 at *
          refine (OC.out t _ hlt P1'.out P2'.out).mono ?_
          rintro e w3 ⟨rfl, hb3⟩
          have HB4 : Hid (Below w.heap.size w w3) := Lib.hid (Bgo HB3'.out hb3)
          have HC4 : Hid (w3.heap[w1.heap.size]? = some (.cells #[.slice (some ⟨g, 0, none⟩) (l.length + 1) k1, .slice A2 rs.length k2] 25)) := Lib.hid (blk_next hb3 HC3'.out)
          have HY4 : Hid (w3.heap[w.heap.size + 1]? = some (.cells #[.string s.name, .int .i64 s.st, .int .i64 (s.fr + t), .int .i64 (s.to + t)] 47)) := Lib.hid (blk_next hb3 HY3'.out)
          have Q1 := Lib.hid (own_next hb3 P1'.out)
          have Q2 := Lib.hid (own_next hb3 P2'.out)
          clear hb3
          have s2 : w3.cell? ⟨w.heap.size + 1, 2, none⟩ = some (.int .i64 (s.fr + t)) := blk_cell HY4.out 2 _ rfl
          have s3 : w3.cell? ⟨w.heap.size + 1, 3, none⟩ = some (.int .i64 (s.to + t)) := blk_cell HY4.out 3 _ rfl
          have z2 : w3.frozen? ⟨w.heap.size + 1, 2, none⟩ = false := blk_frozen HY4.out 2
          have z3 : w3.frozen? ⟨w.heap.size + 1, 3, none⟩ = false := blk_frozen HY4.out 3
          have hz10 : w.heap.size + 1 < w1.heap.size := hz9
          cases hob : obeysB (l ++ [mv s t]) rs
          · have HOB := Lib.hid hob
            go_wp2_with fail
            go_roundg ((1001 - s.to).toNat - (t + 1))
            case rel =>
              refine ⟨t + 1, mv s t, by omega, rfl, Lib.hid (Bset1 (Bset1 HB4.out (by omega) _ _) (by omega) _ _), Lib.hid (blk_set_other (blk_set_other HC4.out (by omega) _ _) (by omega) _ _), Lib.hid ?_, Lib.hid ?_, Lib.hid ?_, Lib.hid ?_⟩
              · have := blk_set (blk_set HY4.out 2 (.int .i64 (s.fr + t + 1))) 3 (.int .i64 (s.to + t + 1))
                simpa [Int.add_assoc] using this
              · refine ownsRow_setCell_below (ownsRow_setCell_below Q1.out ?_ _) ?_ _ <;> exact Nat.lt_succ_self _
              · refine ownsRow_setCell_below (ownsRow_setCell_below Q2.out ?_ _) ?_ _ <;> exact Nat.lt_succ_self _
              · intro u hu
                by_cases e : u = t
                · subst e; exact HOB.out
                · exact HN.out u (by omega)
            case measure => have := HGK.out; omega
          · have HOB := Lib.hid hob
            go_wp2_with fail
            go_ret2
            refine ⟨?_, HB4.out⟩
            have : eaT l rs s = some t := find_first (by omega) HOB.out HN.out
            rw [F2.out, this]; rfl
        · go_wp2_with fail
          go_ret2
          refine ⟨?_, HB3.out⟩
          have : eaT l rs s = none := find_none (fun u hu => HN.out u (by omega))
          rw [F2.out, this]; rfl
end Go.Proofs.Ythmfjlphmamegaa
