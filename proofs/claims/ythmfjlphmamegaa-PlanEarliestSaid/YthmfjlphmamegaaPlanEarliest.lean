/- For every input the law PlanEarliest returns true and leaves its arguments as they were. -/
import Derived.Test.YthmfjlphmamegaaRows
import Derived.Test.YthmfjlphmamegaaPl9
import Derived.WalkKit
import Derived.ProofKit
import Derived.OpenShut
import Derived.ShutString
import Derived.ChangeOld
import Derived.Below
import Derived.Lib.SmallJoins
namespace Go.Proofs.Ythmfjlphmamegaa.planEarliest
open Go.ChangeShapes Go.WideShapes Go.ChangeAt Go.RowKit Go.Joins
open Go.ChangeMaps (open_string shut_string)
set_option linter.unusedVariables false

theorem own : ownKnob Try.prog.godebug = none := by kernel_rfl
theorem laidOut : laidOutB Try.prog = true := by kernel_rfl
theorem dup_find {l : List Slt} {s : Slt} (h : dupB l = false) (h2 : dupB (l ++ [s]) = true) : 0 ≤ findI l s.name := by
  rcases findI_is l s.name with e | ⟨k, hk, e⟩
  · exfalso
    have hno : ∀ j (hj : j < l.length), (l[j].name.toList == s.name.toList) = false := by
      intro j hj
      cases hh : (l[j].name.toList == s.name.toList)
      · rfl
      · exfalso
        have := (findI_take (l := l ++ [s]) (i := l.length) (by simp) s.name).2 ⟨j, by simp; omega, hj, by rw [List.getElem_append_left hj]; exact hh⟩
        rw [List.take_left] at this
        omega
    have : dupB (l ++ [s]) = false := by
      apply not_dup_of
      intro i hi j hj
      by_cases hil : i < l.length
      · rw [List.getElem_append_left hil, List.getElem_append_left (by omega)]
        cases hh : (l[j].name.toList == l[i].name.toList)
        · rfl
        · rw [dup_of hil hj hh] at h; cases h
      · have ei : i = l.length := by simp at hi; omega
        subst ei
        rw [List.getElem_append_left hj, List.getElem_append_right (by omega)]
        simp only [Nat.sub_self, List.getElem_cons_zero]
        exact hno j hj
    rw [this] at h2; cases h2
  · rw [e]; omega
theorem ad_cases {l : List Slt} {rs : List Rul} {s : Slt} (ok : Okp l rs) (hs : slotB s = true) : adE l rs s = 0 ∨ adE l rs s = 4 ∨ (adE l rs s = 14 ∧ 0 ≤ findI l s.name) := by
  have e : adE l rs s = checkE (l ++ [s]) rs := by unfold adE; rw [if_neg (by simpa using okp_zero ok)]
  rw [e]
  unfold checkE
  by_cases h1 : 20 < (l ++ [s]).length ∨ 20 < rs.length
  · rw [if_pos h1]; exact .inr (.inl rfl)
  rw [if_neg h1]
  cases hd : dupB (l ++ [s])
  · have a1 : (l ++ [s]).all slotB = true := by
      rw [List.all_append]
      have : l.all slotB = true := by
        rw [List.all_eq_true]; intro x hx; obtain ⟨i, hi, rfl⟩ := List.mem_iff_getElem.1 hx; exact ok.sl i hi
      rw [this]; simp [hs]
    have a2 : rs.all ruleB = true := by
      rw [List.all_eq_true]; intro x hx; obtain ⟨i, hi, rfl⟩ := List.mem_iff_getElem.1 hx; exact ok.ru i hi
    rw [a1, a2]; exact .inl rfl
  · exact .inr (.inr ⟨rfl, dup_find ok.nd hd⟩)
theorem ad_mv {l : List Slt} {rs : List Rul} {s : Slt} (ok : Okp l rs) (h : adE l rs s = 0) (u : Nat) (hu : s.to + u ≤ 1000) : adE l rs (mv s u) = 0 ∧ adL l rs (mv s u) = l ++ [mv s u] ∧ adR l rs (mv s u) = rs ∧ checkE (l ++ [mv s u]) rs = 0 ∧ obL (l ++ [mv s u]) rs = obeysB (l ++ [mv s u]) rs := by
  have h2 := okp_zero (okp_mv (ad_ok h).2 u hu)
  have h3 : adE l rs (mv s u) = 0 := by unfold adE; rw [if_neg (by simpa using okp_zero ok)]; exact h2
  refine ⟨h3, by unfold adL; rw [h3, if_pos rfl], by unfold adR; rw [h3, if_pos rfl], h2, by unfold obL; rw [if_pos h2]⟩
theorem ea_some {l : List Slt} {rs : List Rul} {s : Slt} {t : Nat} (h : eaT l rs s = some t) : t < (1001 - s.to).toNat ∧ obeysB (l ++ [mv s t]) rs = true ∧ ∀ u, u < t → obeysB (l ++ [mv s u]) rs = false := by
  unfold eaT at h
  rw [List.find?_range_eq_some] at h
  exact ⟨by simpa using h.2.1, h.1, fun u hu => by simpa using h.2.2 u hu⟩
theorem ea_none {l : List Slt} {rs : List Rul} {s : Slt} (h : eaT l rs s = none) : ∀ u, u < (1001 - s.to).toNat → obeysB (l ++ [mv s u]) rs = false := by
  unfold eaT at h
  rw [List.find?_eq_none] at h
  intro u hu
  have := h u (by simpa using hu)
  simpa using this
attribute [local go_sem ↓] Go.wp_at_zero Go.wp_at_succ
set_option maxHeartbeats 16000000 in
set_option maxRecDepth 100000 in
theorem walk (a : Option Addr) (cap : Nat) (l : List Slt) (a' : Option Addr) (cap' : Nat) (rs : List Rul) (w : World) (hn : l.length ≤ cap) (hcap : cap ≤ 9223372036854775807) (hs : SlotsIn w a l)
    (hn' : rs.length ≤ cap') (hcap' : cap' ≤ 9223372036854775807) (hr : RulesIn w a' rs) (s : Slt) :
    Calls Try.prog 5 #[Pv a l.length cap a' rs.length cap', Sv s] w fun e w' => e = .returned (.bool true) ∧ Below w.heap.size w w' := by
  have HS := Lib.hid hs
  have HR := Lib.hid hr
  clear hs hr
  have K1 := Lib.hid (fun (W : World) (hW : Below w.heap.size w W) => great_calls a cap l a' cap' rs W hn hcap (HS.out.next hW) hn' hcap' (HR.out.next hW))
  have K2 := Lib.hid (fun (W : World) (hW : Below w.heap.size w W) => refCheck_calls a cap l a' cap' rs W hn hcap (HS.out.next hW) hn' hcap' (HR.out.next hW))
  have K4 := Lib.hid (fun (W : World) (hW : Below w.heap.size w W) => earliest_calls a cap l a' cap' rs W hn hcap (HS.out.next hW) hn' hcap' (HR.out.next hW) s)
  have K6 := Lib.hid (fun (W : World) (hW : Below w.heap.size w W) => obeysX_calls a cap l a' cap' rs W hn hcap (HS.out.next hW) hn' hcap' (HR.out.next hW))
  have K5 := Lib.hid (fun (X : Slt) (W : World) (hW : Below w.heap.size w W) => add_calls a cap l a' cap' rs W hn hcap (HS.out.next hW) hn' hcap' (HR.out.next hW) X)
  have K7 := Lib.hid (fun (W : World) (hW : Below w.heap.size w W) => index_calls a cap l a' rs.length cap' s.name W hn hcap (HS.out.next hW))
  go_enter Try.func5, Try.ntmps5
  go_wp2_with fail
  refine (alive_calls _).mono ?_
  rintro e w0 ⟨rfl, hb⟩
  have P0 : Hid (w0.heap[w.heap.size]? = some (.cells #[.slice a l.length cap, .slice a' rs.length cap'] 25)) := Lib.hid (blk_next hb (blk1 w _ _))
  have S0 : Hid (w0.heap[w.heap.size + 1]? = some (.cells #[.string s.name, .int .i64 s.st, .int .i64 s.fr, .int .i64 s.to] 47)) := Lib.hid (blk_next hb (blk2 w _ _))
  have N0 : Hid (Below w.heap.size w w0) := Lib.hid (Bgo (Bal (Bal (Below.refl _ _) _) _) hb)
  clear hb
  have p0 : w0.cell? ⟨w.heap.size, 0, none⟩ = some (.slice a l.length cap) := blk_cell P0.out 0 _ rfl
  have p1 : w0.cell? ⟨w.heap.size, 1, none⟩ = some (.slice a' rs.length cap') := blk_cell P0.out 1 _ rfl
  have s0 : w0.cell? ⟨w.heap.size + 1, 0, none⟩ = some (.string s.name) := blk_cell S0.out 0 _ rfl
  have s1 : w0.cell? ⟨w.heap.size + 1, 1, none⟩ = some (.int .i64 s.st) := blk_cell S0.out 1 _ rfl
  have s2 : w0.cell? ⟨w.heap.size + 1, 2, none⟩ = some (.int .i64 s.fr) := blk_cell S0.out 2 _ rfl
  have s3 : w0.cell? ⟨w.heap.size + 1, 3, none⟩ = some (.int .i64 s.to) := blk_cell S0.out 3 _ rfl
  have xl := blk_lt S0.out
  have xl0 := blk_lt P0.out
  go_wp2_with fail
  clear p0 p1 s0 s1 s2 s3 xl xl0
  refine (K1.out _ N0.out).mono ?_
  rintro e w1 ⟨g, rfl, hg, hb⟩
  have P1 : Hid (w1.heap[w.heap.size]? = some (.cells #[.slice a l.length cap, .slice a' rs.length cap'] 25)) := Lib.hid (blk_next hb P0.out)
  have S1 : Hid (w1.heap[w.heap.size + 1]? = some (.cells #[.string s.name, .int .i64 s.st, .int .i64 s.fr, .int .i64 s.to] 47)) := Lib.hid (blk_next hb S0.out)
  have N1 : Hid (Below w.heap.size w w1) := Lib.hid (Bgo N0.out hb)
  clear hb P0 S0 N0 K1
  have p0 : w1.cell? ⟨w.heap.size, 0, none⟩ = some (.slice a l.length cap) := blk_cell P1.out 0 _ rfl
  have p1 : w1.cell? ⟨w.heap.size, 1, none⟩ = some (.slice a' rs.length cap') := blk_cell P1.out 1 _ rfl
  have s0 : w1.cell? ⟨w.heap.size + 1, 0, none⟩ = some (.string s.name) := blk_cell S1.out 0 _ rfl
  have s1 : w1.cell? ⟨w.heap.size + 1, 1, none⟩ = some (.int .i64 s.st) := blk_cell S1.out 1 _ rfl
  have s2 : w1.cell? ⟨w.heap.size + 1, 2, none⟩ = some (.int .i64 s.fr) := blk_cell S1.out 2 _ rfl
  have s3 : w1.cell? ⟨w.heap.size + 1, 3, none⟩ = some (.int .i64 s.to) := blk_cell S1.out 3 _ rfl
  have xl := blk_lt S1.out
  have xl0 := blk_lt P1.out
  cases g
  case true =>
    go_wp2_with fail
    go_ret
    exact ⟨rfl, N1.out⟩
  clear hg
  go_wp2_with fail
  clear p0 p1 s0 s1 s2 s3 xl xl0
  refine (K2.out _ N1.out).mono ?_
  rintro e w2 ⟨rfl, hb⟩
  have P2 : Hid (w2.heap[w.heap.size]? = some (.cells #[.slice a l.length cap, .slice a' rs.length cap'] 25)) := Lib.hid (blk_next hb P1.out)
  have S2 : Hid (w2.heap[w.heap.size + 1]? = some (.cells #[.string s.name, .int .i64 s.st, .int .i64 s.fr, .int .i64 s.to] 47)) := Lib.hid (blk_next hb S1.out)
  have N2 : Hid (Below w.heap.size w w2) := Lib.hid (Bgo N1.out hb)
  clear hb P1 S1 N1 K2
  have p0 : w2.cell? ⟨w.heap.size, 0, none⟩ = some (.slice a l.length cap) := blk_cell P2.out 0 _ rfl
  have p1 : w2.cell? ⟨w.heap.size, 1, none⟩ = some (.slice a' rs.length cap') := blk_cell P2.out 1 _ rfl
  have s0 : w2.cell? ⟨w.heap.size + 1, 0, none⟩ = some (.string s.name) := blk_cell S2.out 0 _ rfl
  have s1 : w2.cell? ⟨w.heap.size + 1, 1, none⟩ = some (.int .i64 s.st) := blk_cell S2.out 1 _ rfl
  have s2 : w2.cell? ⟨w.heap.size + 1, 2, none⟩ = some (.int .i64 s.fr) := blk_cell S2.out 2 _ rfl
  have s3 : w2.cell? ⟨w.heap.size + 1, 3, none⟩ = some (.int .i64 s.to) := blk_cell S2.out 3 _ rfl
  have xl := blk_lt S2.out
  have xl0 := blk_lt P2.out
  by_cases hE : checkE l rs = 0
  case neg =>
    have hne : (checkE l rs != 0) = true := by simpa using hE
    go_wp2_with fail
    go_ret
    exact ⟨rfl, N2.out⟩
  have ok := okp_of hE
  have OK := Lib.hid ok
  have FO : Hid (obL l rs = obeysB l rs) := Lib.hid (by unfold obL; rw [if_pos hE])
  rw [hE, FO.out] at K6
  rw [hE]
  clear hE FO
  go_wp2_with fail
  clear p0 p1 s0 s1 s2 s3 xl xl0
  refine (refSlot_calls s _).mono ?_
  rintro e w3 ⟨rfl, hb⟩
  have P3 : Hid (w3.heap[w.heap.size]? = some (.cells #[.slice a l.length cap, .slice a' rs.length cap'] 25)) := Lib.hid (blk_next hb P2.out)
  have S3 : Hid (w3.heap[w.heap.size + 1]? = some (.cells #[.string s.name, .int .i64 s.st, .int .i64 s.fr, .int .i64 s.to] 47)) := Lib.hid (blk_next hb S2.out)
  have N3 : Hid (Below w.heap.size w w3) := Lib.hid (Bgo N2.out hb)
  clear hb P2 S2 N2
  have p0 : w3.cell? ⟨w.heap.size, 0, none⟩ = some (.slice a l.length cap) := blk_cell P3.out 0 _ rfl
  have p1 : w3.cell? ⟨w.heap.size, 1, none⟩ = some (.slice a' rs.length cap') := blk_cell P3.out 1 _ rfl
  have s0 : w3.cell? ⟨w.heap.size + 1, 0, none⟩ = some (.string s.name) := blk_cell S3.out 0 _ rfl
  have s1 : w3.cell? ⟨w.heap.size + 1, 1, none⟩ = some (.int .i64 s.st) := blk_cell S3.out 1 _ rfl
  have s2 : w3.cell? ⟨w.heap.size + 1, 2, none⟩ = some (.int .i64 s.fr) := blk_cell S3.out 2 _ rfl
  have s3 : w3.cell? ⟨w.heap.size + 1, 3, none⟩ = some (.int .i64 s.to) := blk_cell S3.out 3 _ rfl
  have xl := blk_lt S3.out
  have xl0 := blk_lt P3.out
  cases hsb : slotB s
  case false =>
    go_wp2_with fail
    go_ret
    exact ⟨rfl, N3.out⟩
  obtain ⟨⟨t1, t2, t3, t4⟩, t5, t6, t7⟩ := slot_times hsb
  have HAD := Lib.hid (ad_cases ok hsb)
  clear hsb ok
  have FV : Hid (eaV l rs s = if adE l rs s ≠ 0 then (0, adE l rs s) else if obeysB l rs = false then (0, 36) else eaW s (eaT l rs s)) := Lib.hid rfl
  go_wp2_with fail
  clear p0 p1 s0 s1 s2 s3 xl xl0
  refine (K4.out _ N3.out).mono ?_
  rintro e w4 ⟨rfl, hb⟩
  have P4 : Hid (w4.heap[w.heap.size]? = some (.cells #[.slice a l.length cap, .slice a' rs.length cap'] 25)) := Lib.hid (blk_next hb P3.out)
  have S4 : Hid (w4.heap[w.heap.size + 1]? = some (.cells #[.string s.name, .int .i64 s.st, .int .i64 s.fr, .int .i64 s.to] 47)) := Lib.hid (blk_next hb S3.out)
  have N4 : Hid (Below w.heap.size w w4) := Lib.hid (Bgo N3.out hb)
  clear hb P3 S3 N3 K4
  have p0 : w4.cell? ⟨w.heap.size, 0, none⟩ = some (.slice a l.length cap) := blk_cell P4.out 0 _ rfl
  have p1 : w4.cell? ⟨w.heap.size, 1, none⟩ = some (.slice a' rs.length cap') := blk_cell P4.out 1 _ rfl
  have s0 : w4.cell? ⟨w.heap.size + 1, 0, none⟩ = some (.string s.name) := blk_cell S4.out 0 _ rfl
  have s1 : w4.cell? ⟨w.heap.size + 1, 1, none⟩ = some (.int .i64 s.st) := blk_cell S4.out 1 _ rfl
  have s2 : w4.cell? ⟨w.heap.size + 1, 2, none⟩ = some (.int .i64 s.fr) := blk_cell S4.out 2 _ rfl
  have s3 : w4.cell? ⟨w.heap.size + 1, 3, none⟩ = some (.int .i64 s.to) := blk_cell S4.out 3 _ rfl
  have xl := blk_lt S4.out
  have xl0 := blk_lt P4.out
  generalize eaV l rs s = V at *
  by_cases ha : adE l rs s = 0
  case neg =>
    rcases HAD.out with h | h | ⟨h, hf⟩
    · exact absurd h ha
    · skip
      have FV2 : Hid (V = (0, 4)) := Lib.hid (by rw [FV.out, if_pos ha, h])
      obtain rfl : V = (0, 4) := FV2.out
      clear FV FV2
      go_wp2_with fail
      clear p0 p1 s0 s1 s2 s3 xl xl0
      refine (K6.out _ N4.out).mono ?_
      rintro e w5 ⟨rfl, hb⟩
      have P5 : Hid (w5.heap[w.heap.size]? = some (.cells #[.slice a l.length cap, .slice a' rs.length cap'] 25)) := Lib.hid (blk_next hb P4.out)
      have S5 : Hid (w5.heap[w.heap.size + 1]? = some (.cells #[.string s.name, .int .i64 s.st, .int .i64 s.fr, .int .i64 s.to] 47)) := Lib.hid (blk_next hb S4.out)
      have N5 : Hid (Below w.heap.size w w5) := Lib.hid (Bgo N4.out hb)
      clear hb P4 S4 N4
      have p0 : w5.cell? ⟨w.heap.size, 0, none⟩ = some (.slice a l.length cap) := blk_cell P5.out 0 _ rfl
      have p1 : w5.cell? ⟨w.heap.size, 1, none⟩ = some (.slice a' rs.length cap') := blk_cell P5.out 1 _ rfl
      have s0 : w5.cell? ⟨w.heap.size + 1, 0, none⟩ = some (.string s.name) := blk_cell S5.out 0 _ rfl
      have s1 : w5.cell? ⟨w.heap.size + 1, 1, none⟩ = some (.int .i64 s.st) := blk_cell S5.out 1 _ rfl
      have s2 : w5.cell? ⟨w.heap.size + 1, 2, none⟩ = some (.int .i64 s.fr) := blk_cell S5.out 2 _ rfl
      have s3 : w5.cell? ⟨w.heap.size + 1, 3, none⟩ = some (.int .i64 s.to) := blk_cell S5.out 3 _ rfl
      have xl := blk_lt S5.out
      have xl0 := blk_lt P5.out
      go_wp2_with fail
      go_ret
      exact ⟨rfl, N5.out⟩
    · skip
      have FV2 : Hid (V = (0, 14)) := Lib.hid (by rw [FV.out, if_pos ha, h])
      obtain rfl : V = (0, 14) := FV2.out
      clear FV FV2
      go_wp2_with fail
      clear p0 p1 s0 s1 s2 s3 xl xl0
      refine (K6.out _ N4.out).mono ?_
      rintro e w5 ⟨rfl, hb⟩
      have P5 : Hid (w5.heap[w.heap.size]? = some (.cells #[.slice a l.length cap, .slice a' rs.length cap'] 25)) := Lib.hid (blk_next hb P4.out)
      have S5 : Hid (w5.heap[w.heap.size + 1]? = some (.cells #[.string s.name, .int .i64 s.st, .int .i64 s.fr, .int .i64 s.to] 47)) := Lib.hid (blk_next hb S4.out)
      have N5 : Hid (Below w.heap.size w w5) := Lib.hid (Bgo N4.out hb)
      clear hb P4 S4 N4
      have p0 : w5.cell? ⟨w.heap.size, 0, none⟩ = some (.slice a l.length cap) := blk_cell P5.out 0 _ rfl
      have p1 : w5.cell? ⟨w.heap.size, 1, none⟩ = some (.slice a' rs.length cap') := blk_cell P5.out 1 _ rfl
      have s0 : w5.cell? ⟨w.heap.size + 1, 0, none⟩ = some (.string s.name) := blk_cell S5.out 0 _ rfl
      have s1 : w5.cell? ⟨w.heap.size + 1, 1, none⟩ = some (.int .i64 s.st) := blk_cell S5.out 1 _ rfl
      have s2 : w5.cell? ⟨w.heap.size + 1, 2, none⟩ = some (.int .i64 s.fr) := blk_cell S5.out 2 _ rfl
      have s3 : w5.cell? ⟨w.heap.size + 1, 3, none⟩ = some (.int .i64 s.to) := blk_cell S5.out 3 _ rfl
      have xl := blk_lt S5.out
      have xl0 := blk_lt P5.out
      have hff : decide (0 ≤ findI l s.name) = true := by simpa using hf
      generalize findI l s.name = fi at *
      go_wp2_with fail
      refine (K7.out _ N5.out).mono ?_
      rintro e w6 ⟨rfl, hb⟩
      have N6 : Hid (Below w.heap.size w w6) := Lib.hid (Bgo N5.out hb)
      clear hb
      go_wp2_with fail
      go_ret
      exact ⟨rfl, N6.out⟩
  have FA := Lib.hid ha
  cases hO : obeysB l rs
  case false =>
    rw [hO] at K6
    have FV2 : Hid (V = (0, 36)) := Lib.hid (by rw [FV.out, if_neg (by simpa using ha), hO]; rfl)
    obtain rfl : V = (0, 36) := FV2.out
    clear FV FV2
    go_wp2_with fail
    clear p0 p1 s0 s1 s2 s3 xl xl0
    refine (K6.out _ N4.out).mono ?_
    rintro e w5 ⟨rfl, hb⟩
    have P5 : Hid (w5.heap[w.heap.size]? = some (.cells #[.slice a l.length cap, .slice a' rs.length cap'] 25)) := Lib.hid (blk_next hb P4.out)
    have S5 : Hid (w5.heap[w.heap.size + 1]? = some (.cells #[.string s.name, .int .i64 s.st, .int .i64 s.fr, .int .i64 s.to] 47)) := Lib.hid (blk_next hb S4.out)
    have N5 : Hid (Below w.heap.size w w5) := Lib.hid (Bgo N4.out hb)
    clear hb P4 S4 N4
    have p0 : w5.cell? ⟨w.heap.size, 0, none⟩ = some (.slice a l.length cap) := blk_cell P5.out 0 _ rfl
    have p1 : w5.cell? ⟨w.heap.size, 1, none⟩ = some (.slice a' rs.length cap') := blk_cell P5.out 1 _ rfl
    have s0 : w5.cell? ⟨w.heap.size + 1, 0, none⟩ = some (.string s.name) := blk_cell S5.out 0 _ rfl
    have s1 : w5.cell? ⟨w.heap.size + 1, 1, none⟩ = some (.int .i64 s.st) := blk_cell S5.out 1 _ rfl
    have s2 : w5.cell? ⟨w.heap.size + 1, 2, none⟩ = some (.int .i64 s.fr) := blk_cell S5.out 2 _ rfl
    have s3 : w5.cell? ⟨w.heap.size + 1, 3, none⟩ = some (.int .i64 s.to) := blk_cell S5.out 3 _ rfl
    have xl := blk_lt S5.out
    have xl0 := blk_lt P5.out
    go_wp2_with fail
    go_ret
    exact ⟨rfl, N5.out⟩
  have FV2 : Hid (V = eaW s (eaT l rs s)) := Lib.hid (by rw [FV.out, if_neg (by simpa using ha), hO]; rfl)
  clear FV ha hO HAD K6 K7
  have ADM := Lib.hid (fun u hu => ad_mv (rs := rs) OK.out FA.out u hu)
  cases hT : eaT l rs s with
  | some t =>
    obtain ⟨e1, e2, e3⟩ := ea_some hT
    have E2 := Lib.hid e2
    have E3 := Lib.hid e3
    have FW : Hid (V = (s.fr + t, 0)) := Lib.hid (by rw [FV2.out, hT]; rfl)
    obtain rfl : V = (s.fr + (t : Int), 0) := FW.out
    clear FV2 FW hT e2 e3
    have e1' : s.to + t ≤ 1000 := by omega
    go_wp2_with fail
    go_loopw [12] (fun i wr => ∃ u : Nat, i = .int .i64 (s.fr + u) ∧ s.fr + u ≤ (s.fr + (t : Int)) + 1 ∧ s.to + u ≤ 1001 ∧ Hid (Below w4.heap.size w4 wr)) (fun i _ => ((s.fr + (t : Int)) + 2 - intOf i).toNat)
    case atStart => exact ⟨0, by simp, by omega, by omega, Lib.hid (Below.refl _ _)⟩
    case round =>
      obtain ⟨u, rfl, hu1, hu2, HB⟩ := hrel
      clear p0 p1 s0 s1 s2 s3 xl xl0
      have P5 := Lib.hid (blk_next HB.out P4.out)
      have S5 := Lib.hid (blk_next HB.out S4.out)
      have N5 : Hid (Below w.heap.size w wr) := Lib.hid (Bgo N4.out HB.out)
      have p0 : wr.cell? ⟨w.heap.size, 0, none⟩ = some (.slice a l.length cap) := blk_cell P5.out 0 _ rfl
      have p1 : wr.cell? ⟨w.heap.size, 1, none⟩ = some (.slice a' rs.length cap') := blk_cell P5.out 1 _ rfl
      have s0 : wr.cell? ⟨w.heap.size + 1, 0, none⟩ = some (.string s.name) := blk_cell S5.out 0 _ rfl
      have s1 : wr.cell? ⟨w.heap.size + 1, 1, none⟩ = some (.int .i64 s.st) := blk_cell S5.out 1 _ rfl
      have s2 : wr.cell? ⟨w.heap.size + 1, 2, none⟩ = some (.int .i64 s.fr) := blk_cell S5.out 2 _ rfl
      have s3 : wr.cell? ⟨w.heap.size + 1, 3, none⟩ = some (.int .i64 s.to) := blk_cell S5.out 3 _ rfl
      have xl := blk_lt S5.out
      have xl0 := blk_lt P5.out
      have hsum : s.fr + u + (s.to - s.fr) = s.to + u := by omega
      have HSUM := Lib.hid hsum
      clear hsum
      by_cases h1 : s.fr + u ≤ (s.fr + (t : Int))
      case neg =>
        go_wp2_with fail
        go_ret
        exact ⟨rfl, N5.out⟩
      by_cases h2 : s.fr + u + (s.to - s.fr) ≤ 1000
      case neg =>
        go_wp2_with fail
        go_ret
        exact ⟨rfl, N5.out⟩
      by_cases h3 : s.fr + 30 < s.fr + u ∧ s.fr + u < (s.fr + (t : Int)) - 30
      case pos =>
        obtain ⟨h3, h4⟩ := h3
        go_wp2_with fail
        exact ⟨⟨u + 1, by go_num, by omega, by omega, HB⟩, by simp [intOf]; omega⟩
      have h3' : ¬ s.fr + 30 < s.fr + u ∨ (s.fr + 30 < s.fr + u ∧ ¬ s.fr + u < (s.fr + (t : Int)) - 30) := by omega
      clear h3
      have EX : Hid ((⟨s.name, s.st, s.fr + u, s.fr + u + (s.to - s.fr)⟩ : Slt) = mv s u) := Lib.hid (by unfold mv; rw [HSUM.out])
      have AM := Lib.hid (ADM.out u (by omega))
      have AO : Hid (obeysB (l ++ [mv s u]) rs = (s.fr + (u : Int) == s.fr + (t : Int))) := Lib.hid (by
        by_cases hut : u = t
        · subst hut; rw [E2.out]; simp
        · rw [E3.out u (by omega)]
          symm
          simp
          omega)
      rcases h3' with h3 | ⟨h3, h4⟩
      all_goals
        go_wp2_with fail
        clear p0 p1 s0 s1 s2 s3 xl xl0
        refine (K5.out ⟨s.name, s.st, s.fr + u, s.fr + u + (s.to - s.fr)⟩ _ N5.out).mono ?_
        rw [EX.out, AM.out.1, AM.out.2.1, AM.out.2.2.1]
        rintro e w6 ⟨v1, v2, rfl, o1, o2, hb⟩
        rw [List.length_append, List.length_singleton] at o1
        obtain ⟨A6, c6, rfl, _, _, _⟩ := Rd.of_own o1
        obtain ⟨B6, d6, rfl, _, _, _⟩ := Rd.of_own o2
        have O1 : Hid (OwnsS w6 wr.heap.size A6 (l.length + 1) c6 (l ++ [mv s u])) := Lib.hid o1
        have O2 : Hid (OwnsR w6 wr.heap.size B6 rs.length d6 rs) := Lib.hid o2
        have HB6 : Hid (Below w4.heap.size w4 w6) := Lib.hid (Bgo HB.out hb)
        clear hb o1 o2
        go_wp2_with fail
        refine (obO (show (l ++ [mv s u]).length = l.length + 1 by simp) rfl (O1.out.alloc _) (O2.out.alloc _)).mono ?_
        rw [AM.out.2.2.2.2, AM.out.2.2.2.1, AO.out]
        rintro e w7 ⟨rfl, hb⟩
        have HB7 : Hid (Below w4.heap.size w4 w7) := Lib.hid (Bgo (Bal HB6.out _) hb)
        clear hb O1 O2 HB6
        go_wp2_with fail
        exact ⟨⟨u + 1, by go_num, by omega, by omega, HB7⟩, by simp [intOf]; omega⟩
  | none =>
    have E3 := Lib.hid (ea_none hT)
    have FW : Hid (V = (0, 6)) := Lib.hid (by rw [FV2.out, hT]; rfl)
    obtain rfl : V = (0, 6) := FW.out
    clear FV2 FW hT
    go_wp2_with fail
    go_loopw [12] (fun i wr => ∃ u : Nat, i = .int .i64 (s.fr + u) ∧ s.fr + u ≤ (1000 - (s.to - s.fr) + 1) + 1 ∧ s.to + u ≤ 1001 ∧ Hid (Below w4.heap.size w4 wr)) (fun i _ => ((1000 - (s.to - s.fr) + 1) + 2 - intOf i).toNat)
    case atStart => exact ⟨0, by simp, by omega, by omega, Lib.hid (Below.refl _ _)⟩
    case round =>
      obtain ⟨u, rfl, hu1, hu2, HB⟩ := hrel
      clear p0 p1 s0 s1 s2 s3 xl xl0
      have P5 := Lib.hid (blk_next HB.out P4.out)
      have S5 := Lib.hid (blk_next HB.out S4.out)
      have N5 : Hid (Below w.heap.size w wr) := Lib.hid (Bgo N4.out HB.out)
      have p0 : wr.cell? ⟨w.heap.size, 0, none⟩ = some (.slice a l.length cap) := blk_cell P5.out 0 _ rfl
      have p1 : wr.cell? ⟨w.heap.size, 1, none⟩ = some (.slice a' rs.length cap') := blk_cell P5.out 1 _ rfl
      have s0 : wr.cell? ⟨w.heap.size + 1, 0, none⟩ = some (.string s.name) := blk_cell S5.out 0 _ rfl
      have s1 : wr.cell? ⟨w.heap.size + 1, 1, none⟩ = some (.int .i64 s.st) := blk_cell S5.out 1 _ rfl
      have s2 : wr.cell? ⟨w.heap.size + 1, 2, none⟩ = some (.int .i64 s.fr) := blk_cell S5.out 2 _ rfl
      have s3 : wr.cell? ⟨w.heap.size + 1, 3, none⟩ = some (.int .i64 s.to) := blk_cell S5.out 3 _ rfl
      have xl := blk_lt S5.out
      have xl0 := blk_lt P5.out
      have hsum : s.fr + u + (s.to - s.fr) = s.to + u := by omega
      have HSUM := Lib.hid hsum
      clear hsum
      by_cases h1 : s.fr + u ≤ (1000 - (s.to - s.fr) + 1)
      case neg =>
        go_wp2_with fail
        go_ret
        exact ⟨rfl, N5.out⟩
      by_cases h2 : s.fr + u + (s.to - s.fr) ≤ 1000
      case neg =>
        go_wp2_with fail
        go_ret
        exact ⟨rfl, N5.out⟩
      by_cases h3 : s.fr + 30 < s.fr + u ∧ s.fr + u < (1000 - (s.to - s.fr) + 1) - 30
      case pos =>
        obtain ⟨h3, h4⟩ := h3
        go_wp2_with fail
        exact ⟨⟨u + 1, by go_num, by omega, by omega, HB⟩, by simp [intOf]; omega⟩
      have h3' : ¬ s.fr + 30 < s.fr + u ∨ (s.fr + 30 < s.fr + u ∧ ¬ s.fr + u < (1000 - (s.to - s.fr) + 1) - 30) := by omega
      clear h3
      have EX : Hid ((⟨s.name, s.st, s.fr + u, s.fr + u + (s.to - s.fr)⟩ : Slt) = mv s u) := Lib.hid (by unfold mv; rw [HSUM.out])
      have AM := Lib.hid (ADM.out u (by omega))
      have AO : Hid (obeysB (l ++ [mv s u]) rs = false) := Lib.hid (by
        exact E3.out u (by omega))
      rcases h3' with h3 | ⟨h3, h4⟩
      all_goals
        go_wp2_with fail
        clear p0 p1 s0 s1 s2 s3 xl xl0
        refine (K5.out ⟨s.name, s.st, s.fr + u, s.fr + u + (s.to - s.fr)⟩ _ N5.out).mono ?_
        rw [EX.out, AM.out.1, AM.out.2.1, AM.out.2.2.1]
        rintro e w6 ⟨v1, v2, rfl, o1, o2, hb⟩
        rw [List.length_append, List.length_singleton] at o1
        obtain ⟨A6, c6, rfl, _, _, _⟩ := Rd.of_own o1
        obtain ⟨B6, d6, rfl, _, _, _⟩ := Rd.of_own o2
        have O1 : Hid (OwnsS w6 wr.heap.size A6 (l.length + 1) c6 (l ++ [mv s u])) := Lib.hid o1
        have O2 : Hid (OwnsR w6 wr.heap.size B6 rs.length d6 rs) := Lib.hid o2
        have HB6 : Hid (Below w4.heap.size w4 w6) := Lib.hid (Bgo HB.out hb)
        clear hb o1 o2
        go_wp2_with fail
        refine (obO (show (l ++ [mv s u]).length = l.length + 1 by simp) rfl (O1.out.alloc _) (O2.out.alloc _)).mono ?_
        rw [AM.out.2.2.2.2, AM.out.2.2.2.1, AO.out]
        rintro e w7 ⟨rfl, hb⟩
        have HB7 : Hid (Below w4.heap.size w4 w7) := Lib.hid (Bgo (Bal HB6.out _) hb)
        clear hb O1 O2 HB6
        go_wp2_with fail
        exact ⟨⟨u + 1, by go_num, by omega, by omega, HB7⟩, by simp [intOf]; omega⟩

set_option maxRecDepth 100000 in
theorem lifted (os : Os) (started : os.Started) (H : Type) (enc : TypeId × Value → H) :
    ReturnsInHanded {} Try.checked os 5 .any (Rows.planEarliestSpec.pre6 enc Try.prog Try.f5 Rows.planEarliestRow.domain false) (Rows.planEarliestSpec.post enc Try.prog Try.f5 false true false false) := by
  refine returnsInHanded_of_change (C := Try.checked) own started (by kernel_rfl) Try.func5
    (ChangeSpec.witness6 (enc := enc) (C := Try.checked) false ⟨#[], #[.agg #[.slice none 0 0, .slice none 0 0], .agg #[.string ⟨#[]⟩, .int .i64 0, .int .i64 0, .int .i64 0]], []⟩ 8 (by kernel_rfl) (by kernel_rfl) (by kernel_rfl) (by kernel_rfl)) ?_
  intro W base args ds gs before hval0 hW hcnd _
  have hval : ∀ (j : Nat) t v, Try.f5.params[j]? = some t → args[j]? = some v → Value.okWide Try.prog W .any base t v := hval0
  have hW' := hW
  obtain ⟨p, q, hA0, hV, rfl, hfz, hnd⟩ := hW
  have hA : DataW.TrodAll enc Try.prog W 0 (fun _ => true) true Try.f5.params.toList args.toList ds p := hA0
  rw [Try.params5] at hA hval
  obtain ⟨v0, vs0, d0, ds0, p0, q0, hargs, rfl, rfl, h0, r0⟩ := trodAll_cons hA
  obtain ⟨v1, vs1, d1, ds1, p1, q1, rfl, rfl, rfl, h1, r1⟩ := trodAll_cons r0
  obtain ⟨rfl, rfl, rfl⟩ := trodAll_nil r1
  obtain rfl : args = #[v0, v1] := by cases args; simp_all
  obtain ⟨rfl, rfl⟩ := trodVars_none hV
  have k0 := h0
  have lt0 : ∀ x ∈ p0, x.block < W.heap.size := by obtain ⟨m, hm⟩ := k0; exact DataW.trod_lt m _ _ _ hm
  obtain ⟨c0_0, c1_0, y0_0, y1_0, m0, rfl, _, _, t0_0, t1_0⟩ := open_agg2 Try.underlying25 (by kernel_rfl) (show Try.prog.cellsOf 25 = 2 by kernel_rfl) (hval 0 25 v0 rfl rfl) h0
  obtain ⟨a, l, cap, e0_0, hn, hcap, hs⟩ := open_slots t0_0
  obtain ⟨a', rs, cap', e1_0, hn', hcap', hr⟩ := open_rules t1_0
  simp only [List.cons.injEq, and_true] at e0_0 e1_0
  subst e0_0 e1_0
  have k1 := h1
  have lt1 : ∀ x ∈ p1, x.block < W.heap.size := by obtain ⟨m, hm⟩ := k1; exact DataW.trod_lt m _ _ _ hm
  obtain ⟨f0_1, f1_1, f2_1, f3_1, g0_1, g1_1, g2_1, g3_1, m1, rfl, _, _, u0_1, u1_1, u2_1, u3_1⟩ := open_agg4 Try.underlying47 (by kernel_rfl) (show Try.prog.cellsOf 47 = 4 by kernel_rfl) (hval 1 47 v1 rfl rfl) h1
  obtain ⟨snm, e0s, _, _⟩ := DataW.trod_string Try.underlying9 u0_1
  obtain ⟨sst, e1s, _, _⟩ := DataW.trod_int Try.underlying3 u1_1
  obtain ⟨sfr, e2s, _, _⟩ := DataW.trod_int Try.underlying3 u2_1
  obtain ⟨sto, e3s, _, _⟩ := DataW.trod_int Try.underlying3 u3_1
  simp only [List.cons.injEq, and_true] at e0s e1s e2s e3s
  subst e0s e1s e2s e3s
  clear hA0 hval0
  refine (walk a cap l a' cap' rs W hn hcap hs hn' hcap' hr ⟨snm, sst, sfr, sto⟩).mono fun e W' ⟨he, bel⟩ => ?_
  subst he
  exact ⟨_, rfl, _, _, _, [], _, [], hW', trodAll_mk1 (shut_bool Try.underlying4 _), (trodAll_cons_mk (Below.trod laidOut (by kernel_rfl) (of_decide_eq_true (by kernel_rfl)) k0 bel lt0) (trodAll_cons_mk (Below.trod laidOut (by kernel_rfl) (of_decide_eq_true (by kernel_rfl)) k1 bel lt1) trodAll_mk0)), rfl, bel.frame _, fun h => by cases h⟩

theorem over : Rows.planEarliestRow.holds Try.pinned (OpenSpec.ofChange Rows.planEarliestSpec) :=
  OpenClaim.holds_of_wide 5 Try.f5 rfl rfl rfl rfl rfl rfl rfl ⟨rfl, rfl, rfl, rfl, rfl⟩ rfl rfl rfl rfl rfl (by kernel_rfl) Try.func5 (by kernel_rfl)
    (of_decide_eq_true (by kernel_rfl)) (by unfold Func.isWrapper; first | (rw [if_pos (by decide +kernel)]; kernel_rfl) | (rw [if_neg (by decide +kernel)]; exact ⟨rfl, rfl⟩))
    (fun os started H enc _ => lifted os started H enc)

theorem proved : Rows.PlanEarliestSaid := over
#print axioms proved
end Go.Proofs.Ythmfjlphmamegaa.planEarliest
