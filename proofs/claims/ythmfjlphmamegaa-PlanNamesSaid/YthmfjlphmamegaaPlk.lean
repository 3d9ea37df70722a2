/- Contracts of layer 43: breaches of one rule, of the program. -/
import Derived.Test.YthmfjlphmamegaaPlh
import Derived.Test.YthmfjlphmamegaaPln
namespace Go.Proofs.Ythmfjlphmamegaa
open Go.ChangeShapes Go.WideShapes Go.ChangeAt Go.RowKit
set_option linter.unusedVariables false
attribute [local go_sem ↓] Go.wp_at_zero Go.wp_at_succ

theorem findI_is (l : List Slt) (nm : ByteArray) : findI l nm = -1 ∨ ∃ k : Nat, k < l.length ∧ findI l nm = (k : Int) := by
  unfold findI; split
  · exact .inr ⟨_, by assumption, rfl⟩
  · exact .inl rfl
theorem at_nat (l : List Slt) (k : Nat) (h : k < l.length) : at' l (k : Int) = l[k] := by
  unfold at'; rw [Int.toNat_natCast, getD_eq h]
theorem nil_post {w w' : World} (hb : Below w.heap.size w w') {L : List Bre} (hL : L = []) : ListPost w L (.returned (.slice none 0 0)) w' := by
  subst hL; exact ⟨_, rfl, ⟨rfl, .inl ⟨rfl, rfl⟩⟩, hb⟩
theorem one_post {w w' : World} (hb : Below w.heap.size w w') {L : List Bre} {x y z : Int} (hL : L = [(x, y, z)]) : ListPost w L (.returned (.slice (some ⟨w'.heap.size, 0, none⟩) 1 1)) (w'.alloc (.cells #[.int .i64 x, .int .i64 y, .int .i64 z] 68)) := by
  subst hL; exact ⟨_, rfl, (own_single w' x y z).mono hb.size, Bal hb _⟩
set_option maxHeartbeats 4000000 in
set_option maxRecDepth 100000 in
theorem broken_1 (a : Option Addr) (cap : Nat) (l : List Slt) (r : Rul) (rule : Int) (w : World) (hn : l.length ≤ cap) (hcap : cap ≤ 9223372036854775807) (h30 : l.length ≤ 30) (hs : SlotsIn w a l) (ht : Tms l) (k1 : (r.kind == 1) = true) :
    Calls Try.prog 39 #[.slice a l.length cap, Uv r, .int .i64 rule] w (ListPost w (brokenL l r rule)) := by
  have F : Hid (brokenL l r rule = if (decide (0 ≤ findI l r.a) && (decide ((at' l (findI l r.a)).fr < r.low) || decide (r.high < (at' l (findI l r.a)).to))) then [(rule, findI l r.a, -1)] else []) := Lib.hid (by unfold brokenL; simp at *; simp [*, winB])
  generalize brokenL l r rule = L at *
  have HA := Lib.hid (findI_is l r.a)
  have HC := Lib.hid (findI_is l r.b)
  have HS := Lib.hid hs
  have HT := Lib.hid ht
  have FC := Lib.hid (fun (nm : ByteArray) (W : World) (hW : Below w.heap.size w W) => find_calls a cap l nm W hn hcap (HS.out.next hW))
  clear hs ht
  have z0 : (w.alloc (.cells #[.int .u8 r.kind, .string r.a, .string r.b, .int .i64 r.low, .int .i64 r.high, .string r.why] 61)).heap[w.heap.size]? = some (.cells #[.int .u8 r.kind, .string r.a, .string r.b, .int .i64 r.low, .int .i64 r.high, .string r.why] 61) := blk_new w _
  have Z0 := Lib.hid z0
  clear z0
  have zb : Below w.heap.size w (w.alloc (.cells #[.int .u8 r.kind, .string r.a, .string r.b, .int .i64 r.low, .int .i64 r.high, .string r.why] 61)) := Bal (Below.refl _ _) _
  have ZB := Lib.hid zb
  clear zb
  go_enter Try.func39, Try.ntmps39
  go_wp2_with fail
  go_region_held3 (fun W => W.cell? ⟨w.heap.size, 1, none⟩ = some (.string r.a) ∧ W.cell? ⟨w.heap.size, 2, none⟩ = some (.string r.b)) (first | (exact ⟨blk_cell yb.out 1 _ rfl, blk_cell yb.out 2 _ rfl⟩) | (exact ⟨blk_cell ya.out 1 _ rfl, blk_cell ya.out 2 _ rfl⟩) | (exact ⟨blk_cell Z0.out 1 _ rfl, blk_cell Z0.out 2 _ rfl⟩) | go_keep)
    (first | (go_at_call 41; refine (FC.out _ _ ?_).mono ?_; (first | exact na.out | exact na.out.drew); rintro e wb ⟨rfl, hbb⟩; have yb := Lib.hid (blk_next hbb ya.out); have nb : Hid (Below w.heap.size w wb) := Lib.hid (by first | exact Bgo na.out hbb | exact Bgo na.out.drew hbb); clear hbb) | (go_at_call 41; refine (FC.out _ _ ?_).mono ?_; (first | exact ZB.out | exact ZB.out.drew); rintro e wa ⟨rfl, hba⟩; have ya := Lib.hid (blk_next hba Z0.out); have na : Hid (Below w.heap.size w wa) := Lib.hid (by first | exact Bgo ZB.out hba | exact Bgo ZB.out.drew hba); clear hba))
  all_goals
    generalize findI l r.a = fa at *
    generalize findI l r.b = fb at *
    clear FC
    have x0 : wb.cell? ⟨w.heap.size, 0, none⟩ = some (.int .u8 r.kind) := blk_cell yb.out 0 _ rfl
    have x3 : wb.cell? ⟨w.heap.size, 3, none⟩ = some (.int .i64 r.low) := blk_cell yb.out 3 _ rfl
    have x4 : wb.cell? ⟨w.heap.size, 4, none⟩ = some (.int .i64 r.high) := blk_cell yb.out 4 _ rfl
    have xl := blk_lt yb.out
    rcases HA.out with rfl | ⟨k, hk, rfl⟩
    · go_wp2_with fail
      go_quiet (fail)
      go_wp2_with fail
      go_ret
      exact nil_post (below_drewN nb.out _) F.out
    · have F2 : Hid (L = if (decide (l[k].fr < r.low) || decide (r.high < l[k].to)) then [(rule, (k : Int), -1)] else []) := Lib.hid (by rw [F.out, at_nat l k hk]; simp)
      clear F
      obtain ⟨b, off, rfl, hl, c0, c1, c2, c3⟩ := (HS.out.next nb.out) k hk
      have km0 : (0 : Int) ≤ (k : Int) := by omega
      have km1 : (k : Int) < (l.length : Int) := by omega
      cases q1 : decide (l[k].fr < r.low)
      · cases q2 : decide (r.high < l[k].to)
        · have F3 : Hid (L = []) := Lib.hid (by rw [F2.out, q1, q2]; rfl)
          go_wp2_with fail
          go_quiet (fail)
          go_wp2_with fail
          go_ret
          exact nil_post (below_drewN nb.out _) F3.out
        · have F3 : Hid (L = [(rule, (k : Int), -1)]) := Lib.hid (by rw [F2.out, q1, q2]; rfl)
          go_wp2_with fail
          go_quiet (fail)
          go_wp2_with fail
          go_ret
          exact one_post (below_drewN nb.out _) F3.out
      · have F3 : Hid (L = [(rule, (k : Int), -1)]) := Lib.hid (by rw [F2.out, q1]; rfl)
        go_wp2_with fail
        go_quiet (fail)
        go_wp2_with fail
        go_ret
        exact one_post (below_drewN nb.out _) F3.out
set_option maxHeartbeats 4000000 in
set_option maxRecDepth 100000 in
theorem broken_2 (a : Option Addr) (cap : Nat) (l : List Slt) (r : Rul) (rule : Int) (w : World) (hn : l.length ≤ cap) (hcap : cap ≤ 9223372036854775807) (h30 : l.length ≤ 30) (hs : SlotsIn w a l) (ht : Tms l) (k1 : (r.kind == 1) = false) (k2 : (r.kind == 2) = true) (hlo : 0 ≤ r.low) (hhi : r.low ≤ 1000) :
    Calls Try.prog 39 #[.slice a l.length cap, Uv r, .int .i64 rule] w (ListPost w (brokenL l r rule)) := by
  have F : Hid (brokenL l r rule = if (decide (0 ≤ findI l r.a) && (decide (0 ≤ findI l r.b) && decide ((at' l (findI l r.b)).fr < (at' l (findI l r.a)).to + r.low))) then [(rule, findI l r.a, findI l r.b)] else []) := Lib.hid (by unfold brokenL; simp at *; simp [*, befB])
  generalize brokenL l r rule = L at *
  have HA := Lib.hid (findI_is l r.a)
  have HC := Lib.hid (findI_is l r.b)
  have HS := Lib.hid hs
  have HT := Lib.hid ht
  have FC := Lib.hid (fun (nm : ByteArray) (W : World) (hW : Below w.heap.size w W) => find_calls a cap l nm W hn hcap (HS.out.next hW))
  clear hs ht
  have z0 : (w.alloc (.cells #[.int .u8 r.kind, .string r.a, .string r.b, .int .i64 r.low, .int .i64 r.high, .string r.why] 61)).heap[w.heap.size]? = some (.cells #[.int .u8 r.kind, .string r.a, .string r.b, .int .i64 r.low, .int .i64 r.high, .string r.why] 61) := blk_new w _
  have Z0 := Lib.hid z0
  clear z0
  have zb : Below w.heap.size w (w.alloc (.cells #[.int .u8 r.kind, .string r.a, .string r.b, .int .i64 r.low, .int .i64 r.high, .string r.why] 61)) := Bal (Below.refl _ _) _
  have ZB := Lib.hid zb
  clear zb
  go_enter Try.func39, Try.ntmps39
  go_wp2_with fail
  go_region_held3 (fun W => W.cell? ⟨w.heap.size, 1, none⟩ = some (.string r.a) ∧ W.cell? ⟨w.heap.size, 2, none⟩ = some (.string r.b)) (first | (exact ⟨blk_cell yb.out 1 _ rfl, blk_cell yb.out 2 _ rfl⟩) | (exact ⟨blk_cell ya.out 1 _ rfl, blk_cell ya.out 2 _ rfl⟩) | (exact ⟨blk_cell Z0.out 1 _ rfl, blk_cell Z0.out 2 _ rfl⟩) | go_keep)
    (first | (go_at_call 41; refine (FC.out _ _ ?_).mono ?_; (first | exact na.out | exact na.out.drew); rintro e wb ⟨rfl, hbb⟩; have yb := Lib.hid (blk_next hbb ya.out); have nb : Hid (Below w.heap.size w wb) := Lib.hid (by first | exact Bgo na.out hbb | exact Bgo na.out.drew hbb); clear hbb) | (go_at_call 41; refine (FC.out _ _ ?_).mono ?_; (first | exact ZB.out | exact ZB.out.drew); rintro e wa ⟨rfl, hba⟩; have ya := Lib.hid (blk_next hba Z0.out); have na : Hid (Below w.heap.size w wa) := Lib.hid (by first | exact Bgo ZB.out hba | exact Bgo ZB.out.drew hba); clear hba))
  all_goals
    generalize findI l r.a = fa at *
    generalize findI l r.b = fb at *
    clear FC
    have x0 : wb.cell? ⟨w.heap.size, 0, none⟩ = some (.int .u8 r.kind) := blk_cell yb.out 0 _ rfl
    have x3 : wb.cell? ⟨w.heap.size, 3, none⟩ = some (.int .i64 r.low) := blk_cell yb.out 3 _ rfl
    have x4 : wb.cell? ⟨w.heap.size, 4, none⟩ = some (.int .i64 r.high) := blk_cell yb.out 4 _ rfl
    have xl := blk_lt yb.out
    rcases HA.out with rfl | ⟨k, hk, rfl⟩
    · skip
      go_wp2_with fail
      go_quiet (fail)
      go_wp2_with fail
      go_ret
      exact nil_post (below_drewN nb.out _) F.out
    rcases HC.out with rfl | ⟨m, hm, rfl⟩
    · have F : Hid (L = []) := Lib.hid (by rw [F.out]; simp)
      go_wp2_with fail
      go_quiet (fail)
      go_wp2_with fail
      go_ret
      exact nil_post (below_drewN nb.out _) F.out
    · have F2 : Hid (L = if decide (l[m].fr < l[k].to + r.low) then [(rule, (k : Int), (m : Int))] else []) := Lib.hid (by rw [F.out, at_nat l k hk, at_nat l m hm]; simp)
      clear F
      obtain ⟨b, off, rfl, hl, c0, c1, c2, c3⟩ := (HS.out.next nb.out) k hk
      obtain ⟨b2, off2, e2, hl2, m0, m1, m2, m3⟩ := (HS.out.next nb.out) m hm
      simp only [Option.some.injEq, Addr.mk.injEq] at e2
      obtain ⟨rfl, rfl, _⟩ := e2
      have km0 : (0 : Int) ≤ (k : Int) := by omega
      have km1 : (k : Int) < (l.length : Int) := by omega
      have km2 : (0 : Int) ≤ (m : Int) := by omega
      have km3 : (m : Int) < (l.length : Int) := by omega
      obtain ⟨t1, t2, t3, t4⟩ := HT.out k hk
      have hsum : IntKind.i64.wrap (l[k].to + r.low) = l[k].to + r.low := IntWalk.i64_in _ (by omega)
      cases q1 : decide (l[m].fr < l[k].to + r.low)
      · have F3 : Hid (L = []) := Lib.hid (by rw [F2.out, q1]; rfl)
        go_wp2_with fail
        go_quiet (fail)
        go_wp2_with fail
        go_ret
        exact nil_post (below_drewN nb.out _) F3.out
      · have F3 : Hid (L = [(rule, (k : Int), (m : Int))]) := Lib.hid (by rw [F2.out, q1]; rfl)
        go_wp2_with fail
        go_quiet (fail)
        go_wp2_with fail
        go_ret
        exact one_post (below_drewN nb.out _) F3.out
set_option maxHeartbeats 4000000 in
set_option maxRecDepth 100000 in
theorem broken_3 (a : Option Addr) (cap : Nat) (l : List Slt) (r : Rul) (rule : Int) (w : World) (hn : l.length ≤ cap) (hcap : cap ≤ 9223372036854775807) (h30 : l.length ≤ 30) (hs : SlotsIn w a l) (ht : Tms l) (k1 : (r.kind == 1) = false) (k2 : (r.kind == 2) = false) (k3 : (r.kind == 3) = true) :
    Calls Try.prog 39 #[.slice a l.length cap, Uv r, .int .i64 rule] w (ListPost w (brokenL l r rule)) := by
  have F : Hid (brokenL l r rule = if (decide (0 ≤ findI l r.a) && (decide (0 ≤ findI l r.b) && meetB (at' l (findI l r.a)) (at' l (findI l r.b)) 0)) then [(rule, findI l r.a, findI l r.b)] else []) := Lib.hid (by unfold brokenL; simp at *; simp [*, apaB])
  generalize brokenL l r rule = L at *
  have HA := Lib.hid (findI_is l r.a)
  have HC := Lib.hid (findI_is l r.b)
  have HS := Lib.hid hs
  have HT := Lib.hid ht
  have FC := Lib.hid (fun (nm : ByteArray) (W : World) (hW : Below w.heap.size w W) => find_calls a cap l nm W hn hcap (HS.out.next hW))
  clear hs ht
  have z0 : (w.alloc (.cells #[.int .u8 r.kind, .string r.a, .string r.b, .int .i64 r.low, .int .i64 r.high, .string r.why] 61)).heap[w.heap.size]? = some (.cells #[.int .u8 r.kind, .string r.a, .string r.b, .int .i64 r.low, .int .i64 r.high, .string r.why] 61) := blk_new w _
  have Z0 := Lib.hid z0
  clear z0
  have zb : Below w.heap.size w (w.alloc (.cells #[.int .u8 r.kind, .string r.a, .string r.b, .int .i64 r.low, .int .i64 r.high, .string r.why] 61)) := Bal (Below.refl _ _) _
  have ZB := Lib.hid zb
  clear zb
  go_enter Try.func39, Try.ntmps39
  go_wp2_with fail
  go_region_held3 (fun W => W.cell? ⟨w.heap.size, 1, none⟩ = some (.string r.a) ∧ W.cell? ⟨w.heap.size, 2, none⟩ = some (.string r.b)) (first | (exact ⟨blk_cell yb.out 1 _ rfl, blk_cell yb.out 2 _ rfl⟩) | (exact ⟨blk_cell ya.out 1 _ rfl, blk_cell ya.out 2 _ rfl⟩) | (exact ⟨blk_cell Z0.out 1 _ rfl, blk_cell Z0.out 2 _ rfl⟩) | go_keep)
    (first | (go_at_call 41; refine (FC.out _ _ ?_).mono ?_; (first | exact na.out | exact na.out.drew); rintro e wb ⟨rfl, hbb⟩; have yb := Lib.hid (blk_next hbb ya.out); have nb : Hid (Below w.heap.size w wb) := Lib.hid (by first | exact Bgo na.out hbb | exact Bgo na.out.drew hbb); clear hbb) | (go_at_call 41; refine (FC.out _ _ ?_).mono ?_; (first | exact ZB.out | exact ZB.out.drew); rintro e wa ⟨rfl, hba⟩; have ya := Lib.hid (blk_next hba Z0.out); have na : Hid (Below w.heap.size w wa) := Lib.hid (by first | exact Bgo ZB.out hba | exact Bgo ZB.out.drew hba); clear hba))
  all_goals
    generalize findI l r.a = fa at *
    generalize findI l r.b = fb at *
    clear FC
    have x0 : wb.cell? ⟨w.heap.size, 0, none⟩ = some (.int .u8 r.kind) := blk_cell yb.out 0 _ rfl
    have x3 : wb.cell? ⟨w.heap.size, 3, none⟩ = some (.int .i64 r.low) := blk_cell yb.out 3 _ rfl
    have x4 : wb.cell? ⟨w.heap.size, 4, none⟩ = some (.int .i64 r.high) := blk_cell yb.out 4 _ rfl
    have xl := blk_lt yb.out
    rcases HA.out with rfl | ⟨k, hk, rfl⟩
    · skip
      go_wp2_with fail
      go_quiet (fail)
      go_wp2_with fail
      go_ret
      exact nil_post (below_drewN nb.out _) F.out
    rcases HC.out with rfl | ⟨m, hm, rfl⟩
    · have F : Hid (L = []) := Lib.hid (by rw [F.out]; simp)
      go_wp2_with fail
      go_quiet (fail)
      go_wp2_with fail
      go_ret
      exact nil_post (below_drewN nb.out _) F.out
    · have F2 : Hid (L = if meetB l[k] l[m] 0 then [(rule, (k : Int), (m : Int))] else []) := Lib.hid (by rw [F.out, at_nat l k hk, at_nat l m hm]; simp)
      clear F
      obtain ⟨b, off, rfl, hl, c0, c1, c2, c3⟩ := (HS.out.next nb.out) k hk
      obtain ⟨b2, off2, e2, hl2, m0, m1, m2, m3⟩ := (HS.out.next nb.out) m hm
      simp only [Option.some.injEq, Addr.mk.injEq] at e2
      obtain ⟨rfl, rfl, _⟩ := e2
      have km0 : (0 : Int) ≤ (k : Int) := by omega
      have km1 : (k : Int) < (l.length : Int) := by omega
      have km2 : (0 : Int) ≤ (m : Int) := by omega
      have km3 : (m : Int) < (l.length : Int) := by omega
      have tk := HT.out k hk
      have tm := HT.out m hm
      cases q1 : meetB l[k] l[m] 0
      · have F3 : Hid (L = []) := Lib.hid (by rw [F2.out, q1]; rfl)
        go_wp2_with fail
        go_region_held3 (fun W => W.cell? ⟨b, off + k * 4, none⟩ = some (.string l[k].name) ∧ W.cell? ⟨b, off + k * 4 + 1, none⟩ = some (.int .i64 l[k].st) ∧ W.cell? ⟨b, off + k * 4 + 2, none⟩ = some (.int .i64 l[k].fr) ∧ W.cell? ⟨b, off + k * 4 + 3, none⟩ = some (.int .i64 l[k].to) ∧ W.cell? ⟨b, off + m * 4, none⟩ = some (.string l[m].name) ∧ W.cell? ⟨b, off + m * 4 + 1, none⟩ = some (.int .i64 l[m].st) ∧ W.cell? ⟨b, off + m * 4 + 2, none⟩ = some (.int .i64 l[m].fr) ∧ W.cell? ⟨b, off + m * 4 + 3, none⟩ = some (.int .i64 l[m].to)) (first | (exact ⟨(hb1.cell hl).trans c0, (hb1.cell hl).trans c1, (hb1.cell hl).trans c2, (hb1.cell hl).trans c3, (hb1.cell hl).trans m0, (hb1.cell hl).trans m1, (hb1.cell hl).trans m2, (hb1.cell hl).trans m3⟩) | (exact ⟨c0, c1, c2, c3, m0, m1, m2, m3⟩) | go_keep) (first | (go_at_call 50; refine (meet_calls l[k] l[m] 0 tk tm (by omega) (by omega) _).mono ?_; rintro e w1 ⟨rfl, hb1⟩))
        all_goals
          have N1 : Hid (Below w.heap.size w w1) := Lib.hid (by first | exact Bgo nb.out hb1 | exact Bgo nb.out.drew hb1)
          go_wp2_with fail
          go_ret
          exact nil_post N1.out F3.out
      · have F3 : Hid (L = [(rule, (k : Int), (m : Int))]) := Lib.hid (by rw [F2.out, q1]; rfl)
        go_wp2_with fail
        go_region_held3 (fun W => W.cell? ⟨b, off + k * 4, none⟩ = some (.string l[k].name) ∧ W.cell? ⟨b, off + k * 4 + 1, none⟩ = some (.int .i64 l[k].st) ∧ W.cell? ⟨b, off + k * 4 + 2, none⟩ = some (.int .i64 l[k].fr) ∧ W.cell? ⟨b, off + k * 4 + 3, none⟩ = some (.int .i64 l[k].to) ∧ W.cell? ⟨b, off + m * 4, none⟩ = some (.string l[m].name) ∧ W.cell? ⟨b, off + m * 4 + 1, none⟩ = some (.int .i64 l[m].st) ∧ W.cell? ⟨b, off + m * 4 + 2, none⟩ = some (.int .i64 l[m].fr) ∧ W.cell? ⟨b, off + m * 4 + 3, none⟩ = some (.int .i64 l[m].to)) (first | (exact ⟨(hb1.cell hl).trans c0, (hb1.cell hl).trans c1, (hb1.cell hl).trans c2, (hb1.cell hl).trans c3, (hb1.cell hl).trans m0, (hb1.cell hl).trans m1, (hb1.cell hl).trans m2, (hb1.cell hl).trans m3⟩) | (exact ⟨c0, c1, c2, c3, m0, m1, m2, m3⟩) | go_keep) (first | (go_at_call 50; refine (meet_calls l[k] l[m] 0 tk tm (by omega) (by omega) _).mono ?_; rintro e w1 ⟨rfl, hb1⟩))
        all_goals
          have N1 : Hid (Below w.heap.size w w1) := Lib.hid (by first | exact Bgo nb.out hb1 | exact Bgo nb.out.drew hb1)
          go_wp2_with fail
          go_ret
          exact one_post N1.out F3.out
set_option maxHeartbeats 4000000 in
set_option maxRecDepth 100000 in
theorem broken_4 (a : Option Addr) (cap : Nat) (l : List Slt) (r : Rul) (rule : Int) (w : World) (hn : l.length ≤ cap) (hcap : cap ≤ 9223372036854775807) (h30 : l.length ≤ 30) (hs : SlotsIn w a l) (ht : Tms l) (k1 : (r.kind == 1) = false) (k2 : (r.kind == 2) = false) (k3 : (r.kind == 3) = false) (k4 : (r.kind == 4) = true) (hl0 : 0 ≤ r.low) (hlo : 0 ≤ r.high) (hhi : r.high ≤ 1000) :
    Calls Try.prog 39 #[.slice a l.length cap, Uv r, .int .i64 rule] w (ListPost w (brokenL l r rule)) := by
  have F : Hid (brokenL l r rule = nearL l rule r.low r.high) := Lib.hid (by unfold brokenL; simp at *; simp [*])
  generalize brokenL l r rule = L at *
  have HA := Lib.hid (findI_is l r.a)
  have HC := Lib.hid (findI_is l r.b)
  have HS := Lib.hid hs
  have HT := Lib.hid ht
  have FC := Lib.hid (fun (nm : ByteArray) (W : World) (hW : Below w.heap.size w W) => find_calls a cap l nm W hn hcap (HS.out.next hW))
  clear hs ht
  have z0 : (w.alloc (.cells #[.int .u8 r.kind, .string r.a, .string r.b, .int .i64 r.low, .int .i64 r.high, .string r.why] 61)).heap[w.heap.size]? = some (.cells #[.int .u8 r.kind, .string r.a, .string r.b, .int .i64 r.low, .int .i64 r.high, .string r.why] 61) := blk_new w _
  have Z0 := Lib.hid z0
  clear z0
  have zb : Below w.heap.size w (w.alloc (.cells #[.int .u8 r.kind, .string r.a, .string r.b, .int .i64 r.low, .int .i64 r.high, .string r.why] 61)) := Bal (Below.refl _ _) _
  have ZB := Lib.hid zb
  clear zb
  go_enter Try.func39, Try.ntmps39
  go_wp2_with fail
  go_region_held3 (fun W => W.cell? ⟨w.heap.size, 1, none⟩ = some (.string r.a) ∧ W.cell? ⟨w.heap.size, 2, none⟩ = some (.string r.b)) (first | (exact ⟨blk_cell yb.out 1 _ rfl, blk_cell yb.out 2 _ rfl⟩) | (exact ⟨blk_cell ya.out 1 _ rfl, blk_cell ya.out 2 _ rfl⟩) | (exact ⟨blk_cell Z0.out 1 _ rfl, blk_cell Z0.out 2 _ rfl⟩) | go_keep)
    (first | (go_at_call 41; refine (FC.out _ _ ?_).mono ?_; (first | exact na.out | exact na.out.drew); rintro e wb ⟨rfl, hbb⟩; have yb := Lib.hid (blk_next hbb ya.out); have nb : Hid (Below w.heap.size w wb) := Lib.hid (by first | exact Bgo na.out hbb | exact Bgo na.out.drew hbb); clear hbb) | (go_at_call 41; refine (FC.out _ _ ?_).mono ?_; (first | exact ZB.out | exact ZB.out.drew); rintro e wa ⟨rfl, hba⟩; have ya := Lib.hid (blk_next hba Z0.out); have na : Hid (Below w.heap.size w wa) := Lib.hid (by first | exact Bgo ZB.out hba | exact Bgo ZB.out.drew hba); clear hba))
  all_goals
    clear FC
    have x0 : wb.cell? ⟨w.heap.size, 0, none⟩ = some (.int .u8 r.kind) := blk_cell yb.out 0 _ rfl
    have x3 : wb.cell? ⟨w.heap.size, 3, none⟩ = some (.int .i64 r.low) := blk_cell yb.out 3 _ rfl
    have x4 : wb.cell? ⟨w.heap.size, 4, none⟩ = some (.int .i64 r.high) := blk_cell yb.out 4 _ rfl
    have xl := blk_lt yb.out
    go_wp2_with fail
    refine (near_calls a cap l rule r.low r.high _ hn hcap h30 (HS.out.next nb.out) HT.out hlo hhi).mono ?_
    rintro e w1 ⟨v, rfl, ho, hb⟩
    go_wp2_with fail
    go_ret
    exact ⟨_, rfl, by rw [F.out]; exact ho.mono nb.out.size, Bgo nb.out hb⟩
set_option maxHeartbeats 4000000 in
set_option maxRecDepth 100000 in
theorem broken_5 (a : Option Addr) (cap : Nat) (l : List Slt) (r : Rul) (rule : Int) (w : World) (hn : l.length ≤ cap) (hcap : cap ≤ 9223372036854775807) (h30 : l.length ≤ 30) (hs : SlotsIn w a l) (ht : Tms l) (k1 : (r.kind == 1) = false) (k2 : (r.kind == 2) = false) (k3 : (r.kind == 3) = false) (k4 : (r.kind == 4) = false) (k5 : (r.kind == 5) = true) :
    Calls Try.prog 39 #[.slice a l.length cap, Uv r, .int .i64 rule] w (ListPost w (brokenL l r rule)) := by
  have F : Hid (brokenL l r rule = holdTo l rule (findI l r.a) r.low r.high l.length) := Lib.hid (by unfold brokenL; simp at *; simp [*])
  generalize brokenL l r rule = L at *
  have HA := Lib.hid (findI_is l r.a)
  have HC := Lib.hid (findI_is l r.b)
  have HS := Lib.hid hs
  have HT := Lib.hid ht
  obtain ⟨i0, hi, hz0, hz1, hz2⟩ := info_parts infoB
  have HI := Lib.hid (And.intro hi (And.intro hz0 (And.intro hz1 hz2)))
  clear hi hz0 hz1 hz2
  have FC := Lib.hid (fun (nm : ByteArray) (W : World) (hW : Below w.heap.size w W) => find_calls a cap l nm W hn hcap (HS.out.next hW))
  clear hs ht
  have z0 : (w.alloc (.cells #[.int .u8 r.kind, .string r.a, .string r.b, .int .i64 r.low, .int .i64 r.high, .string r.why] 61)).heap[w.heap.size]? = some (.cells #[.int .u8 r.kind, .string r.a, .string r.b, .int .i64 r.low, .int .i64 r.high, .string r.why] 61) := blk_new w _
  have Z0 := Lib.hid z0
  clear z0
  have zb : Below w.heap.size w (w.alloc (.cells #[.int .u8 r.kind, .string r.a, .string r.b, .int .i64 r.low, .int .i64 r.high, .string r.why] 61)) := Bal (Below.refl _ _) _
  have ZB := Lib.hid zb
  clear zb
  go_enter Try.func39, Try.ntmps39
  go_wp2_with fail
  go_region_held3 (fun W => W.cell? ⟨w.heap.size, 1, none⟩ = some (.string r.a) ∧ W.cell? ⟨w.heap.size, 2, none⟩ = some (.string r.b)) (first | (exact ⟨blk_cell yb.out 1 _ rfl, blk_cell yb.out 2 _ rfl⟩) | (exact ⟨blk_cell ya.out 1 _ rfl, blk_cell ya.out 2 _ rfl⟩) | (exact ⟨blk_cell Z0.out 1 _ rfl, blk_cell Z0.out 2 _ rfl⟩) | go_keep)
    (first | (go_at_call 41; refine (FC.out _ _ ?_).mono ?_; (first | exact na.out | exact na.out.drew); rintro e wb ⟨rfl, hbb⟩; have yb := Lib.hid (blk_next hbb ya.out); have nb : Hid (Below w.heap.size w wb) := Lib.hid (by first | exact Bgo na.out hbb | exact Bgo na.out.drew hbb); clear hbb) | (go_at_call 41; refine (FC.out _ _ ?_).mono ?_; (first | exact ZB.out | exact ZB.out.drew); rintro e wa ⟨rfl, hba⟩; have ya := Lib.hid (blk_next hba Z0.out); have na : Hid (Below w.heap.size w wa) := Lib.hid (by first | exact Bgo ZB.out hba | exact Bgo ZB.out.drew hba); clear hba))
  all_goals
    generalize findI l r.a = fa at *
    clear FC
    have x0 : wb.cell? ⟨w.heap.size, 0, none⟩ = some (.int .u8 r.kind) := blk_cell yb.out 0 _ rfl
    have x3 : wb.cell? ⟨w.heap.size, 3, none⟩ = some (.int .i64 r.low) := blk_cell yb.out 3 _ rfl
    have x4 : wb.cell? ⟨w.heap.size, 4, none⟩ = some (.int .i64 r.high) := blk_cell yb.out 4 _ rfl
    have xl := blk_lt yb.out
    go_wp2_with fail
    go_loopw [9, 116] (fun v i wr => ∃ k : Nat, k ≤ l.length ∧ i = .int .i64 k ∧ Hid (Below w.heap.size w wr) ∧ Hid (wr.heap[w.heap.size]? = some (.cells #[.int .u8 r.kind, .string r.a, .string r.b, .int .i64 r.low, .int .i64 r.high, .string r.why] 61)) ∧ Hid (wr.ownsRow (w.heap.size + 1) 68 3 v (holdTo l rule fa r.low r.high k).length (bre (holdTo l rule fa r.low r.high k)))) (fun _ i _ => l.length - (intOf i).toNat)
    case atStart => exact ⟨0, by omega, rfl, nb, yb, Lib.hid ⟨rfl, .inl ⟨rfl, rfl⟩⟩⟩
    case round =>
      obtain ⟨k, hk, rfl, HB, HX, HO⟩ := hrel
      clear x0 x3 x4 xl
      have x3 : wr.cell? ⟨w.heap.size, 3, none⟩ = some (.int .i64 r.low) := blk_cell HX.out 3 _ rfl
      have x4 : wr.cell? ⟨w.heap.size, 4, none⟩ = some (.int .i64 r.high) := blk_cell HX.out 4 _ rfl
      have xl := blk_lt HX.out
      by_cases hlt : k < l.length
      · obtain ⟨b, off, rfl, hl, c0, c1, c2, c3⟩ := (HS.out.next HB.out) k hlt
        have hR1 := holdTo_len l rule fa r.low r.high k
        have HP := Lib.hid (holdTo_succ l rule fa r.low r.high k)
        have HPB : Hid (holdB l fa r.low r.high k = (((k : Int) != fa) && ((l[k].st == r.low) && decide (l[k].fr < r.high)))) := Lib.hid (by unfold holdB; rw [getD_eq hlt]; rfl)
        generalize holdB l fa r.low r.high k = pb at *
        have qq : (((k : Int) != fa) = false) ∨ (((k : Int) != fa) = true ∧ (l[k].st == r.low) = false) ∨ (((k : Int) != fa) = true ∧ (l[k].st == r.low) = true ∧ decide (l[k].fr < r.high) = false) ∨ (((k : Int) != fa) = true ∧ (l[k].st == r.low) = true ∧ decide (l[k].fr < r.high) = true) := by
          cases q1 : ((k : Int) != fa) <;> cases q2 : (l[k].st == r.low) <;> cases q3 : decide (l[k].fr < r.high) <;> simp
        rcases qq with q1 | ⟨q1, q2⟩ | ⟨q1, q2, q3⟩ | ⟨q1, q2, q3⟩
        · have Fp : Hid (pb = false) := Lib.hid (by rw [HPB.out, q1]; rfl)
          go_wp2_with fail
          refine ⟨⟨k + 1, by omega, by go_num, Lib.hid (Bal HB.out _), Lib.hid (blk_alloc HX.out _), Lib.hid ?_⟩, by simp [intOf]; omega⟩
          rw [HP.out, Fp.out, if_neg (by decide), List.append_nil]
          exact HO.out.alloc _
        · have Fp : Hid (pb = false) := Lib.hid (by rw [HPB.out, q1, q2]; rfl)
          go_wp2_with fail
          refine ⟨⟨k + 1, by omega, by go_num, Lib.hid (Bal HB.out _), Lib.hid (blk_alloc HX.out _), Lib.hid ?_⟩, by simp [intOf]; omega⟩
          rw [HP.out, Fp.out, if_neg (by decide), List.append_nil]
          exact HO.out.alloc _
        · have Fp : Hid (pb = false) := Lib.hid (by rw [HPB.out, q1, q2, q3]; rfl)
          go_wp2_with fail
          refine ⟨⟨k + 1, by omega, by go_num, Lib.hid (Bal HB.out _), Lib.hid (blk_alloc HX.out _), Lib.hid ?_⟩, by simp [intOf]; omega⟩
          rw [HP.out, Fp.out, if_neg (by decide), List.append_nil]
          exact HO.out.alloc _
        · have Fp : Hid (pb = true) := Lib.hid (by rw [HPB.out, q1, q2, q3]; rfl)
          have HO3 := Lib.hid (HO.out.alloc (.cells #[.string l[k].name, .int .i64 l[k].st, .int .i64 l[k].fr, .int .i64 l[k].to] 47))
          have H63 : Hid ((holdTo l rule fa r.low r.high k).length + 1 ≤ maxLen) := Lib.hid (by unfold maxLen; omega)
          have H64 : Hid (((holdTo l rule fa r.low r.high k).length + 1) * 24 ≤ 140737488355328) := Lib.hid (by omega)
          have H5 : Hid (w.heap.size + 1 ≤ ((wr.alloc (.cells #[.string l[k].name, .int .i64 l[k].st, .int .i64 l[k].fr, .int .i64 l[k].to] 47)).alloc (.cells #[.int .i64 rule, .int .i64 (k : Int), .int .i64 (-1)] 68)).heap.size) := Lib.hid (by simp; omega)
          have HNW : Hid (∀ (j : Nat) (u : Value), [Value.int .i64 rule, Value.int .i64 (k : Int), Value.int .i64 (-1)][j]? = some u → ((wr.alloc (.cells #[.string l[k].name, .int .i64 l[k].st, .int .i64 l[k].fr, .int .i64 l[k].to] 47)).alloc (.cells #[.int .i64 rule, .int .i64 (k : Int), .int .i64 (-1)] 68)).cell? ((⟨wr.heap.size + 1, 0, none⟩ : Addr).add j) = some u) := Lib.hid (by
            have := new3 (wr.alloc (.cells #[.string l[k].name, .int .i64 l[k].st, .int .i64 l[k].fr, .int .i64 l[k].to] 47)) (.int .i64 rule) (.int .i64 (k : Int)) (.int .i64 (-1)) 68
            simpa using this)
          go_wp2_with (at_builtin; refine wpList_append_own _ rfl _ _ 27 rfl (w.heap.size + 1) 68 i0 (.agg #[.int .i64 0, .int .i64 0, .int .i64 0]) 3 24 Try.underlying27 HI.out.1 HI.out.2.1 HI.out.2.2.1 HI.out.2.2.2 rfl (by decide) _ _ _ rfl (HO3.out.alloc _) ⟨wr.heap.size + 1, 0, none⟩ 1 1 [.int .i64 rule, .int .i64 (k : Int), .int .i64 (-1)] rfl rfl HNW.out (one3 _ _ _) H63.out H64.out H5.out ?_; intro v2 w2 hown2 hgrow2 hnil2)
          have HB4 : Hid (Below w.heap.size w w2) := Lib.hid (own_below2 (HO3.out.alloc _) (Bal (Bal HB.out _) _) (by omega) hgrow2)
          have HX4 := Lib.hid (grown_blk (HO3.out.alloc _) (blk_alloc (blk_alloc HX.out _) _) (by omega) hgrow2)
          have HO4 := Lib.hid hown2
          clear hown2 hgrow2 hnil2
          go_wp2_with fail
          refine ⟨⟨k + 1, by omega, by go_num, HB4, HX4, Lib.hid ?_⟩, by simp [intOf]; omega⟩
          rw [HP.out, Fp.out, if_pos rfl, bre_append, List.length_append]
          exact HO4.out
      · obtain rfl : k = l.length := by omega
        go_wp2_with fail
        go_ret
        exact ⟨_, rfl, by rw [F.out]; exact HO.out.mono (by omega), HB.out⟩
theorem broken_calls (a : Option Addr) (cap : Nat) (l : List Slt) (r : Rul) (rule : Int) (w : World) (hn : l.length ≤ cap) (hcap : cap ≤ 9223372036854775807) (h30 : l.length ≤ 30) (hs : SlotsIn w a l) (ht : Tms l) (hr : ruleB r = true) :
    Calls Try.prog 39 #[.slice a l.length cap, Uv r, .int .i64 rule] w (ListPost w (brokenL l r rule)) := by
  rcases rule_kind hr with k1 | ⟨k1, k2⟩ | ⟨k1, k2, k3⟩ | ⟨k1, k2, k3, k4⟩ | ⟨k1, k2, k3, k4, k5⟩
  · exact broken_1 a cap l r rule w hn hcap h30 hs ht k1
  · obtain ⟨h1, h2⟩ := rule_two hr (by simpa using k2)
    exact broken_2 a cap l r rule w hn hcap h30 hs ht k1 k2 h1 h2
  · exact broken_3 a cap l r rule w hn hcap h30 hs ht k1 k2 k3
  · obtain ⟨h1, h2, h3, h4⟩ := rule_four hr (by simpa using k4)
    exact broken_4 a cap l r rule w hn hcap h30 hs ht k1 k2 k3 k4 h1 h3 h4
  · exact broken_5 a cap l r rule w hn hcap h30 hs ht k1 k2 k3 k4 k5
end Go.Proofs.Ythmfjlphmamegaa
