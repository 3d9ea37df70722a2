/- Contracts of layer 43: breaches of one rule, of the reference. -/
import Derived.Test.YthmfjlphmamegaaPlk
namespace Go.Proofs.Ythmfjlphmamegaa
open Go.ChangeShapes Go.WideShapes Go.ChangeAt Go.RowKit
set_option linter.unusedVariables false
attribute [local go_sem ↓] Go.wp_at_zero Go.wp_at_succ

theorem blk1 (w : World) (x y : Obj) : ((w.alloc x).alloc y).heap[w.heap.size]? = some x := blk_alloc (blk_new w x) y
theorem own_drewN {w : World} {base : Nat} {e : TypeId} {size : Nat} {v : Value} {n : Nat} {xs : List Value} (h : w.ownsRow base e size v n xs) (k : Nat) : (w.drewN k).ownsRow base e size v n xs := h
theorem blk2 (w : World) (x y : Obj) : ((w.alloc x).alloc y).heap[w.heap.size + 1]? = some y := blk_at y (by simp)
set_option maxHeartbeats 4000000 in
set_option maxRecDepth 100000 in
theorem refBroken_1 (a : Option Addr) (cap : Nat) (l : List Slt) (a' : Option Addr) (cap' n' k : Nat) (r : Rul) (w : World) (hn : l.length ≤ cap) (hcap : cap ≤ 9223372036854775807) (h30 : l.length ≤ 30) (hs : SlotsIn w a l) (hk0 : k < n') (hn'0 : n' ≤ cap') (hcap' : cap' ≤ 9223372036854775807) (br offr : Nat) (ea' : a' = some ⟨br, offr, none⟩) (hlr : br < w.heap.size) (hr : RuleAt w br offr k r) (ht : Tms l) (k1 : (r.kind == 1) = true) :
    Calls Try.prog 40 #[Pv a l.length cap a' n' cap', .int .i64 (k : Int)] w (ListPost w (brokenL l r k)) := by
  have F : Hid (brokenL l r k = if (decide (0 ≤ findI l r.a) && (decide ((at' l (findI l r.a)).fr < r.low) || decide (r.high < (at' l (findI l r.a)).to))) then [((k : Int), findI l r.a, -1)] else []) := Lib.hid (by unfold brokenL; simp at k1; simp [*, winB])
  generalize brokenL l r k = L at *
  obtain ⟨i0, hi, hz0, hz1, hz2⟩ := info_parts infoB
  have HI := Lib.hid (And.intro hi (And.intro hz0 (And.intro hz1 hz2)))
  clear hi hz0 hz1 hz2
  have HA := Lib.hid (findI_is l r.a)
  have HC := Lib.hid (findI_is l r.b)
  have HS := Lib.hid hs
  have HT := Lib.hid ht
  have FC := Lib.hid (fun (nm : ByteArray) (W : World) (hW : Below w.heap.size w W) => index_calls a cap l a' n' cap' nm W hn hcap (HS.out.next hW))
  clear hs ht
  subst ea'
  obtain ⟨r0, r1, r2, r3, r4, r5⟩ := hr
  have kq : (k : Int) < (n' : Int) := by omega
  have Z0 := Lib.hid (blk1 w (.cells #[.slice a l.length cap, .slice (some ⟨br, offr, none⟩) n' cap'] 25) (.cells #[.int .u8 r.kind, .string r.a, .string r.b, .int .i64 r.low, .int .i64 r.high, .string r.why] 61))
  have Z1 := Lib.hid (blk2 w (.cells #[.slice a l.length cap, .slice (some ⟨br, offr, none⟩) n' cap'] 25) (.cells #[.int .u8 r.kind, .string r.a, .string r.b, .int .i64 r.low, .int .i64 r.high, .string r.why] 61))
  have ZB : Hid (Below w.heap.size w ((w.alloc (.cells #[.slice a l.length cap, .slice (some ⟨br, offr, none⟩) n' cap'] 25)).alloc (.cells #[.int .u8 r.kind, .string r.a, .string r.b, .int .i64 r.low, .int .i64 r.high, .string r.why] 61))) := Lib.hid (Bal (Bal (Below.refl _ _) _) _)
  go_enter Try.func40, Try.ntmps40
  go_wp2_with fail
  go_region_held3 (fun W => W.cell? ⟨w.heap.size, 0, none⟩ = some (.slice a l.length cap) ∧ W.cell? ⟨w.heap.size, 1, none⟩ = some (.slice (some ⟨br, offr, none⟩) n' cap') ∧ W.cell? ⟨w.heap.size + 1, 1, none⟩ = some (.string r.a) ∧ W.cell? ⟨w.heap.size + 1, 2, none⟩ = some (.string r.b)) (first | (exact ⟨blk_cell pb.out 0 _ rfl, blk_cell pb.out 1 _ rfl, blk_cell yb.out 1 _ rfl, blk_cell yb.out 2 _ rfl⟩) | (exact ⟨blk_cell pa.out 0 _ rfl, blk_cell pa.out 1 _ rfl, blk_cell ya.out 1 _ rfl, blk_cell ya.out 2 _ rfl⟩) | (exact ⟨blk_cell Z0.out 0 _ rfl, blk_cell Z0.out 1 _ rfl, blk_cell Z1.out 1 _ rfl, blk_cell Z1.out 2 _ rfl⟩) | go_keep)
    (first | (go_at_call 31; refine (FC.out _ _ ?_).mono ?_; (first | exact na.out | exact na.out.drew); rintro e wb ⟨rfl, hbb⟩; have pb := Lib.hid (blk_next hbb pa.out); have yb := Lib.hid (blk_next hbb ya.out); have nb : Hid (Below w.heap.size w wb) := Lib.hid (by first | exact Bgo na.out hbb | exact Bgo na.out.drew hbb); clear hbb) | (go_at_call 31; refine (FC.out _ _ ?_).mono ?_; (first | exact ZB.out | exact ZB.out.drew); rintro e wa ⟨rfl, hba⟩; have pa := Lib.hid (blk_next hba Z0.out); have ya := Lib.hid (blk_next hba Z1.out); have na : Hid (Below w.heap.size w wa) := Lib.hid (by first | exact Bgo ZB.out hba | exact Bgo ZB.out.drew hba); clear hba))
  all_goals
    clear r0 r1 r2 r3 r4 r5
    generalize findI l r.a = fa at *
    generalize findI l r.b = fb at *
    clear FC
    have x0 : wb.cell? ⟨w.heap.size + 1, 0, none⟩ = some (.int .u8 r.kind) := blk_cell yb.out 0 _ rfl
    have x3 : wb.cell? ⟨w.heap.size + 1, 3, none⟩ = some (.int .i64 r.low) := blk_cell yb.out 3 _ rfl
    have x4 : wb.cell? ⟨w.heap.size + 1, 4, none⟩ = some (.int .i64 r.high) := blk_cell yb.out 4 _ rfl
    have p0 : wb.cell? ⟨w.heap.size, 0, none⟩ = some (.slice a l.length cap) := blk_cell pb.out 0 _ rfl
    have p1 : wb.cell? ⟨w.heap.size, 1, none⟩ = some (.slice (some ⟨br, offr, none⟩) n' cap') := blk_cell pb.out 1 _ rfl
    have xl := blk_lt yb.out
    rcases HA.out with rfl | ⟨u, hu, rfl⟩
    · skip
      go_wp2_with fail
      go_quiet (fail)
      go_wp2_with fail
      go_ret
      exact nil_post (below_drewN nb.out _) F.out
    · have F2 : Hid (L = if (decide (l[u].fr < r.low) || decide (r.high < l[u].to)) then [((k : Int), (u : Int), -1)] else []) := Lib.hid (by rw [F.out, at_nat l u hu]; simp)
      clear F
      obtain ⟨b, off, rfl, hl, c0, c1, c2, c3⟩ := (HS.out.next nb.out) u hu
      have km0 : (0 : Int) ≤ (u : Int) := by omega
      have km1 : (u : Int) < (l.length : Int) := by omega
      cases q1 : decide (l[u].fr < r.low)
      · cases q2 : decide (r.high < l[u].to)
        · have F3 : Hid (L = []) := Lib.hid (by rw [F2.out, q1, q2]; rfl)
          go_wp2_with fail
          go_quiet (fail)
          go_wp2_with fail
          go_ret
          exact nil_post (below_drewN nb.out _) F3.out
        · have F3 : Hid (L = [((k : Int), (u : Int), -1)]) := Lib.hid (by rw [F2.out, q1, q2]; rfl)
          go_wp2_with fail
          go_quiet (fail)
          have H63 : Hid (0 + 1 ≤ maxLen) := Lib.hid (by unfold maxLen; omega)
          have H64 : Hid ((0 + 1) * 24 ≤ 140737488355328) := Lib.hid (by omega)
          have H5 : Hid (∀ x, w.heap.size + 1 ≤ (wb.alloc x).heap.size) := Lib.hid (fun x => by simp; omega)
          go_wp2_with (at_builtin; refine wpList_append_own _ rfl _ _ 27 rfl (w.heap.size + 1) 68 i0 (.agg #[.int .i64 0, .int .i64 0, .int .i64 0]) 3 24 Try.underlying27 HI.out.1 HI.out.2.1 HI.out.2.2.1 HI.out.2.2.2 rfl (by decide) (.slice none 0 0) 0 [] rfl (World.ownsRow_nil _ _ _ _) ⟨wb.heap.size, 0, none⟩ 1 1 [.int .i64 (k : Int), .int .i64 (u : Int), .int .i64 (-1)] rfl rfl (new3 _ _ _ _ _) (one3 _ _ _) H63.out H64.out (H5.out _) ?_; intro v2 w2 hown2 hgrow2 hnil2)
          have N2 : Hid (Below w.heap.size w w2) := Lib.hid ((Bal (below_drewN nb.out _) _).grown hgrow2 (Bal (below_drewN nb.out _) _).size (by simp [Value.ownBlock]))
          have O2 := Lib.hid hown2
          clear hown2 hgrow2 hnil2
          go_wp2_with fail
          go_ret
          refine ⟨_, rfl, ?_, N2.out⟩
          rw [F3.out]
          exact (by simpa [bre] using O2.out.mono (show w.heap.size ≤ w.heap.size + 1 by omega))
      · have F3 : Hid (L = [((k : Int), (u : Int), -1)]) := Lib.hid (by rw [F2.out, q1]; rfl)
        go_wp2_with fail
        go_quiet (fail)
        have H63 : Hid (0 + 1 ≤ maxLen) := Lib.hid (by unfold maxLen; omega)
        have H64 : Hid ((0 + 1) * 24 ≤ 140737488355328) := Lib.hid (by omega)
        have H5 : Hid (∀ x, w.heap.size + 1 ≤ (wb.alloc x).heap.size) := Lib.hid (fun x => by simp; omega)
        go_wp2_with (at_builtin; refine wpList_append_own _ rfl _ _ 27 rfl (w.heap.size + 1) 68 i0 (.agg #[.int .i64 0, .int .i64 0, .int .i64 0]) 3 24 Try.underlying27 HI.out.1 HI.out.2.1 HI.out.2.2.1 HI.out.2.2.2 rfl (by decide) (.slice none 0 0) 0 [] rfl (World.ownsRow_nil _ _ _ _) ⟨wb.heap.size, 0, none⟩ 1 1 [.int .i64 (k : Int), .int .i64 (u : Int), .int .i64 (-1)] rfl rfl (new3 _ _ _ _ _) (one3 _ _ _) H63.out H64.out (H5.out _) ?_; intro v2 w2 hown2 hgrow2 hnil2)
        have N2 : Hid (Below w.heap.size w w2) := Lib.hid ((Bal (below_drewN nb.out _) _).grown hgrow2 (Bal (below_drewN nb.out _) _).size (by simp [Value.ownBlock]))
        have O2 := Lib.hid hown2
        clear hown2 hgrow2 hnil2
        go_wp2_with fail
        go_ret
        refine ⟨_, rfl, ?_, N2.out⟩
        rw [F3.out]
        exact (by simpa [bre] using O2.out.mono (show w.heap.size ≤ w.heap.size + 1 by omega))
set_option maxHeartbeats 4000000 in
set_option maxRecDepth 100000 in
theorem refBroken_2 (a : Option Addr) (cap : Nat) (l : List Slt) (a' : Option Addr) (cap' n' k : Nat) (r : Rul) (w : World) (hn : l.length ≤ cap) (hcap : cap ≤ 9223372036854775807) (h30 : l.length ≤ 30) (hs : SlotsIn w a l) (hk0 : k < n') (hn'0 : n' ≤ cap') (hcap' : cap' ≤ 9223372036854775807) (br offr : Nat) (ea' : a' = some ⟨br, offr, none⟩) (hlr : br < w.heap.size) (hr : RuleAt w br offr k r) (ht : Tms l) (k1 : (r.kind == 1) = false) (k2 : (r.kind == 2) = true) (hlo : 0 ≤ r.low) (hhi : r.low ≤ 1000) :
    Calls Try.prog 40 #[Pv a l.length cap a' n' cap', .int .i64 (k : Int)] w (ListPost w (brokenL l r k)) := by
  have F : Hid (brokenL l r k = if (decide (0 ≤ findI l r.a) && (decide (0 ≤ findI l r.b) && decide ((at' l (findI l r.b)).fr < (at' l (findI l r.a)).to + r.low))) then [((k : Int), findI l r.a, findI l r.b)] else []) := Lib.hid (by unfold brokenL; simp at k1; simp at k2; simp [*, befB])
  generalize brokenL l r k = L at *
  obtain ⟨i0, hi, hz0, hz1, hz2⟩ := info_parts infoB
  have HI := Lib.hid (And.intro hi (And.intro hz0 (And.intro hz1 hz2)))
  clear hi hz0 hz1 hz2
  have HA := Lib.hid (findI_is l r.a)
  have HC := Lib.hid (findI_is l r.b)
  have HS := Lib.hid hs
  have HT := Lib.hid ht
  have FC := Lib.hid (fun (nm : ByteArray) (W : World) (hW : Below w.heap.size w W) => index_calls a cap l a' n' cap' nm W hn hcap (HS.out.next hW))
  clear hs ht
  subst ea'
  obtain ⟨r0, r1, r2, r3, r4, r5⟩ := hr
  have kq : (k : Int) < (n' : Int) := by omega
  have Z0 := Lib.hid (blk1 w (.cells #[.slice a l.length cap, .slice (some ⟨br, offr, none⟩) n' cap'] 25) (.cells #[.int .u8 r.kind, .string r.a, .string r.b, .int .i64 r.low, .int .i64 r.high, .string r.why] 61))
  have Z1 := Lib.hid (blk2 w (.cells #[.slice a l.length cap, .slice (some ⟨br, offr, none⟩) n' cap'] 25) (.cells #[.int .u8 r.kind, .string r.a, .string r.b, .int .i64 r.low, .int .i64 r.high, .string r.why] 61))
  have ZB : Hid (Below w.heap.size w ((w.alloc (.cells #[.slice a l.length cap, .slice (some ⟨br, offr, none⟩) n' cap'] 25)).alloc (.cells #[.int .u8 r.kind, .string r.a, .string r.b, .int .i64 r.low, .int .i64 r.high, .string r.why] 61))) := Lib.hid (Bal (Bal (Below.refl _ _) _) _)
  go_enter Try.func40, Try.ntmps40
  go_wp2_with fail
  go_region_held3 (fun W => W.cell? ⟨w.heap.size, 0, none⟩ = some (.slice a l.length cap) ∧ W.cell? ⟨w.heap.size, 1, none⟩ = some (.slice (some ⟨br, offr, none⟩) n' cap') ∧ W.cell? ⟨w.heap.size + 1, 1, none⟩ = some (.string r.a) ∧ W.cell? ⟨w.heap.size + 1, 2, none⟩ = some (.string r.b)) (first | (exact ⟨blk_cell pb.out 0 _ rfl, blk_cell pb.out 1 _ rfl, blk_cell yb.out 1 _ rfl, blk_cell yb.out 2 _ rfl⟩) | (exact ⟨blk_cell pa.out 0 _ rfl, blk_cell pa.out 1 _ rfl, blk_cell ya.out 1 _ rfl, blk_cell ya.out 2 _ rfl⟩) | (exact ⟨blk_cell Z0.out 0 _ rfl, blk_cell Z0.out 1 _ rfl, blk_cell Z1.out 1 _ rfl, blk_cell Z1.out 2 _ rfl⟩) | go_keep)
    (first | (go_at_call 31; refine (FC.out _ _ ?_).mono ?_; (first | exact na.out | exact na.out.drew); rintro e wb ⟨rfl, hbb⟩; have pb := Lib.hid (blk_next hbb pa.out); have yb := Lib.hid (blk_next hbb ya.out); have nb : Hid (Below w.heap.size w wb) := Lib.hid (by first | exact Bgo na.out hbb | exact Bgo na.out.drew hbb); clear hbb) | (go_at_call 31; refine (FC.out _ _ ?_).mono ?_; (first | exact ZB.out | exact ZB.out.drew); rintro e wa ⟨rfl, hba⟩; have pa := Lib.hid (blk_next hba Z0.out); have ya := Lib.hid (blk_next hba Z1.out); have na : Hid (Below w.heap.size w wa) := Lib.hid (by first | exact Bgo ZB.out hba | exact Bgo ZB.out.drew hba); clear hba))
  all_goals
    clear r0 r1 r2 r3 r4 r5
    generalize findI l r.a = fa at *
    generalize findI l r.b = fb at *
    clear FC
    have x0 : wb.cell? ⟨w.heap.size + 1, 0, none⟩ = some (.int .u8 r.kind) := blk_cell yb.out 0 _ rfl
    have x3 : wb.cell? ⟨w.heap.size + 1, 3, none⟩ = some (.int .i64 r.low) := blk_cell yb.out 3 _ rfl
    have x4 : wb.cell? ⟨w.heap.size + 1, 4, none⟩ = some (.int .i64 r.high) := blk_cell yb.out 4 _ rfl
    have p0 : wb.cell? ⟨w.heap.size, 0, none⟩ = some (.slice a l.length cap) := blk_cell pb.out 0 _ rfl
    have p1 : wb.cell? ⟨w.heap.size, 1, none⟩ = some (.slice (some ⟨br, offr, none⟩) n' cap') := blk_cell pb.out 1 _ rfl
    have xl := blk_lt yb.out
    rcases HA.out with rfl | ⟨u, hu, rfl⟩
    · skip
      go_wp2_with fail
      go_quiet (fail)
      go_wp2_with fail
      go_ret
      exact nil_post (below_drewN nb.out _) F.out
    rcases HC.out with rfl | ⟨m, hm, rfl⟩
    · have F : Hid (L = []) := Lib.hid (by rw [F.out]; simp)
      go_wp2_with fail
      go_quiet (fail)
      go_wp2_with fail
      go_ret
      exact nil_post (below_drewN nb.out _) F.out
    · have F2 : Hid (L = if decide (l[m].fr < l[u].to + r.low) then [((k : Int), (u : Int), (m : Int))] else []) := Lib.hid (by rw [F.out, at_nat l u hu, at_nat l m hm]; simp)
      clear F
      obtain ⟨b, off, rfl, hl, c0, c1, c2, c3⟩ := (HS.out.next nb.out) u hu
      obtain ⟨b2, off2, e2, hl2, m0, m1, m2, m3⟩ := (HS.out.next nb.out) m hm
      simp only [Option.some.injEq, Addr.mk.injEq] at e2
      obtain ⟨rfl, rfl, _⟩ := e2
      have km0 : (0 : Int) ≤ (u : Int) := by omega
      have km1 : (u : Int) < (l.length : Int) := by omega
      have km2 : (0 : Int) ≤ (m : Int) := by omega
      have km3 : (m : Int) < (l.length : Int) := by omega
      obtain ⟨t1, t2, t3, t4⟩ := HT.out u hu
      have hsum : IntKind.i64.wrap (l[u].to + r.low) = l[u].to + r.low := IntWalk.i64_in _ (by omega)
      cases q1 : decide (l[m].fr < l[u].to + r.low)
      · have F3 : Hid (L = []) := Lib.hid (by rw [F2.out, q1]; rfl)
        go_wp2_with fail
        go_quiet (fail)
        go_wp2_with fail
        go_ret
        exact nil_post (below_drewN nb.out _) F3.out
      · have F3 : Hid (L = [((k : Int), (u : Int), (m : Int))]) := Lib.hid (by rw [F2.out, q1]; rfl)
        go_wp2_with fail
        go_quiet (fail)
        have H63 : Hid (0 + 1 ≤ maxLen) := Lib.hid (by unfold maxLen; omega)
        have H64 : Hid ((0 + 1) * 24 ≤ 140737488355328) := Lib.hid (by omega)
        have H5 : Hid (∀ x, w.heap.size + 1 ≤ (wb.alloc x).heap.size) := Lib.hid (fun x => by simp; omega)
        go_wp2_with (at_builtin; refine wpList_append_own _ rfl _ _ 27 rfl (w.heap.size + 1) 68 i0 (.agg #[.int .i64 0, .int .i64 0, .int .i64 0]) 3 24 Try.underlying27 HI.out.1 HI.out.2.1 HI.out.2.2.1 HI.out.2.2.2 rfl (by decide) (.slice none 0 0) 0 [] rfl (World.ownsRow_nil _ _ _ _) ⟨wb.heap.size, 0, none⟩ 1 1 [.int .i64 (k : Int), .int .i64 (u : Int), .int .i64 (m : Int)] rfl rfl (new3 _ _ _ _ _) (one3 _ _ _) H63.out H64.out (H5.out _) ?_; intro v2 w2 hown2 hgrow2 hnil2)
        have N2 : Hid (Below w.heap.size w w2) := Lib.hid ((Bal (below_drewN nb.out _) _).grown hgrow2 (Bal (below_drewN nb.out _) _).size (by simp [Value.ownBlock]))
        have O2 := Lib.hid hown2
        clear hown2 hgrow2 hnil2
        go_wp2_with fail
        go_ret
        refine ⟨_, rfl, ?_, N2.out⟩
        rw [F3.out]
        exact (by simpa [bre] using O2.out.mono (show w.heap.size ≤ w.heap.size + 1 by omega))
set_option maxHeartbeats 4000000 in
set_option maxRecDepth 100000 in
theorem refBroken_3 (a : Option Addr) (cap : Nat) (l : List Slt) (a' : Option Addr) (cap' n' k : Nat) (r : Rul) (w : World) (hn : l.length ≤ cap) (hcap : cap ≤ 9223372036854775807) (h30 : l.length ≤ 30) (hs : SlotsIn w a l) (hk0 : k < n') (hn'0 : n' ≤ cap') (hcap' : cap' ≤ 9223372036854775807) (br offr : Nat) (ea' : a' = some ⟨br, offr, none⟩) (hlr : br < w.heap.size) (hr : RuleAt w br offr k r) (ht : Tms l) (k1 : (r.kind == 1) = false) (k2 : (r.kind == 2) = false) (k3 : (r.kind == 3) = true) :
    Calls Try.prog 40 #[Pv a l.length cap a' n' cap', .int .i64 (k : Int)] w (ListPost w (brokenL l r k)) := by
  have F : Hid (brokenL l r k = if (decide (0 ≤ findI l r.a) && (decide (0 ≤ findI l r.b) && meetB (at' l (findI l r.a)) (at' l (findI l r.b)) 0)) then [((k : Int), findI l r.a, findI l r.b)] else []) := Lib.hid (by unfold brokenL; simp at k1; simp at k2; simp at k3; simp [*, apaB])
  generalize brokenL l r k = L at *
  obtain ⟨i0, hi, hz0, hz1, hz2⟩ := info_parts infoB
  have HI := Lib.hid (And.intro hi (And.intro hz0 (And.intro hz1 hz2)))
  clear hi hz0 hz1 hz2
  have HA := Lib.hid (findI_is l r.a)
  have HC := Lib.hid (findI_is l r.b)
  have HS := Lib.hid hs
  have HT := Lib.hid ht
  have FC := Lib.hid (fun (nm : ByteArray) (W : World) (hW : Below w.heap.size w W) => index_calls a cap l a' n' cap' nm W hn hcap (HS.out.next hW))
  clear hs ht
  subst ea'
  obtain ⟨r0, r1, r2, r3, r4, r5⟩ := hr
  have kq : (k : Int) < (n' : Int) := by omega
  have Z0 := Lib.hid (blk1 w (.cells #[.slice a l.length cap, .slice (some ⟨br, offr, none⟩) n' cap'] 25) (.cells #[.int .u8 r.kind, .string r.a, .string r.b, .int .i64 r.low, .int .i64 r.high, .string r.why] 61))
  have Z1 := Lib.hid (blk2 w (.cells #[.slice a l.length cap, .slice (some ⟨br, offr, none⟩) n' cap'] 25) (.cells #[.int .u8 r.kind, .string r.a, .string r.b, .int .i64 r.low, .int .i64 r.high, .string r.why] 61))
  have ZB : Hid (Below w.heap.size w ((w.alloc (.cells #[.slice a l.length cap, .slice (some ⟨br, offr, none⟩) n' cap'] 25)).alloc (.cells #[.int .u8 r.kind, .string r.a, .string r.b, .int .i64 r.low, .int .i64 r.high, .string r.why] 61))) := Lib.hid (Bal (Bal (Below.refl _ _) _) _)
  go_enter Try.func40, Try.ntmps40
  go_wp2_with fail
  go_region_held3 (fun W => W.cell? ⟨w.heap.size, 0, none⟩ = some (.slice a l.length cap) ∧ W.cell? ⟨w.heap.size, 1, none⟩ = some (.slice (some ⟨br, offr, none⟩) n' cap') ∧ W.cell? ⟨w.heap.size + 1, 1, none⟩ = some (.string r.a) ∧ W.cell? ⟨w.heap.size + 1, 2, none⟩ = some (.string r.b)) (first | (exact ⟨blk_cell pb.out 0 _ rfl, blk_cell pb.out 1 _ rfl, blk_cell yb.out 1 _ rfl, blk_cell yb.out 2 _ rfl⟩) | (exact ⟨blk_cell pa.out 0 _ rfl, blk_cell pa.out 1 _ rfl, blk_cell ya.out 1 _ rfl, blk_cell ya.out 2 _ rfl⟩) | (exact ⟨blk_cell Z0.out 0 _ rfl, blk_cell Z0.out 1 _ rfl, blk_cell Z1.out 1 _ rfl, blk_cell Z1.out 2 _ rfl⟩) | go_keep)
    (first | (go_at_call 31; refine (FC.out _ _ ?_).mono ?_; (first | exact na.out | exact na.out.drew); rintro e wb ⟨rfl, hbb⟩; have pb := Lib.hid (blk_next hbb pa.out); have yb := Lib.hid (blk_next hbb ya.out); have nb : Hid (Below w.heap.size w wb) := Lib.hid (by first | exact Bgo na.out hbb | exact Bgo na.out.drew hbb); clear hbb) | (go_at_call 31; refine (FC.out _ _ ?_).mono ?_; (first | exact ZB.out | exact ZB.out.drew); rintro e wa ⟨rfl, hba⟩; have pa := Lib.hid (blk_next hba Z0.out); have ya := Lib.hid (blk_next hba Z1.out); have na : Hid (Below w.heap.size w wa) := Lib.hid (by first | exact Bgo ZB.out hba | exact Bgo ZB.out.drew hba); clear hba))
  all_goals
    clear r0 r1 r2 r3 r4 r5
    generalize findI l r.a = fa at *
    generalize findI l r.b = fb at *
    clear FC
    have x0 : wb.cell? ⟨w.heap.size + 1, 0, none⟩ = some (.int .u8 r.kind) := blk_cell yb.out 0 _ rfl
    have x3 : wb.cell? ⟨w.heap.size + 1, 3, none⟩ = some (.int .i64 r.low) := blk_cell yb.out 3 _ rfl
    have x4 : wb.cell? ⟨w.heap.size + 1, 4, none⟩ = some (.int .i64 r.high) := blk_cell yb.out 4 _ rfl
    have p0 : wb.cell? ⟨w.heap.size, 0, none⟩ = some (.slice a l.length cap) := blk_cell pb.out 0 _ rfl
    have p1 : wb.cell? ⟨w.heap.size, 1, none⟩ = some (.slice (some ⟨br, offr, none⟩) n' cap') := blk_cell pb.out 1 _ rfl
    have xl := blk_lt yb.out
    rcases HA.out with rfl | ⟨u, hu, rfl⟩
    · skip
      go_wp2_with fail
      go_quiet (fail)
      go_wp2_with fail
      go_ret
      exact nil_post (below_drewN nb.out _) F.out
    rcases HC.out with rfl | ⟨m, hm, rfl⟩
    · have F : Hid (L = []) := Lib.hid (by rw [F.out]; simp)
      go_wp2_with fail
      go_quiet (fail)
      go_wp2_with fail
      go_ret
      exact nil_post (below_drewN nb.out _) F.out
    · have F2 : Hid (L = if meetB l[u] l[m] 0 then [((k : Int), (u : Int), (m : Int))] else []) := Lib.hid (by rw [F.out, at_nat l u hu, at_nat l m hm]; simp)
      clear F
      obtain ⟨b, off, rfl, hl, c0, c1, c2, c3⟩ := (HS.out.next nb.out) u hu
      obtain ⟨b2, off2, e2, hl2, m0, m1, m2, m3⟩ := (HS.out.next nb.out) m hm
      simp only [Option.some.injEq, Addr.mk.injEq] at e2
      obtain ⟨rfl, rfl, _⟩ := e2
      have km0 : (0 : Int) ≤ (u : Int) := by omega
      have km1 : (u : Int) < (l.length : Int) := by omega
      have km2 : (0 : Int) ≤ (m : Int) := by omega
      have km3 : (m : Int) < (l.length : Int) := by omega
      have tk := HT.out u hu
      have tm := HT.out m hm
      have xp := blk_lt pb.out
      cases q1 : meetB l[u] l[m] 0
      · have F3 : Hid (L = []) := Lib.hid (by rw [F2.out, q1]; rfl)
        go_wp2_with fail
        go_region_held3 (fun W => W.cell? ⟨w.heap.size, 0, none⟩ = some (.slice (some ⟨b, off, none⟩) l.length cap) ∧ W.cell? ⟨b, off + u * 4, none⟩ = some (.string l[u].name) ∧ W.cell? ⟨b, off + u * 4 + 1, none⟩ = some (.int .i64 l[u].st) ∧ W.cell? ⟨b, off + u * 4 + 2, none⟩ = some (.int .i64 l[u].fr) ∧ W.cell? ⟨b, off + u * 4 + 3, none⟩ = some (.int .i64 l[u].to) ∧ W.cell? ⟨b, off + m * 4, none⟩ = some (.string l[m].name) ∧ W.cell? ⟨b, off + m * 4 + 1, none⟩ = some (.int .i64 l[m].st) ∧ W.cell? ⟨b, off + m * 4 + 2, none⟩ = some (.int .i64 l[m].fr) ∧ W.cell? ⟨b, off + m * 4 + 3, none⟩ = some (.int .i64 l[m].to)) (first | (exact ⟨(hb1.cell xp).trans p0, (hb1.cell hl).trans c0, (hb1.cell hl).trans c1, (hb1.cell hl).trans c2, (hb1.cell hl).trans c3, (hb1.cell hl).trans m0, (hb1.cell hl).trans m1, (hb1.cell hl).trans m2, (hb1.cell hl).trans m3⟩) | (exact ⟨p0, c0, c1, c2, c3, m0, m1, m2, m3⟩) | go_keep) (first | (go_at_call 51; refine (refNear_calls l[u] l[m] 0 tk tm (by omega) (by omega) _).mono ?_; rintro e w1 ⟨rfl, hb1⟩))
        all_goals
          have N1 : Hid (Below w.heap.size w w1) := Lib.hid (by first | exact Bgo nb.out hb1 | exact Bgo nb.out.drew hb1)
          go_wp2_with fail
          go_ret
          exact nil_post N1.out F3.out
      · have F3 : Hid (L = [((k : Int), (u : Int), (m : Int))]) := Lib.hid (by rw [F2.out, q1]; rfl)
        go_wp2_with fail
        go_region_held3 (fun W => W.cell? ⟨w.heap.size, 0, none⟩ = some (.slice (some ⟨b, off, none⟩) l.length cap) ∧ W.cell? ⟨b, off + u * 4, none⟩ = some (.string l[u].name) ∧ W.cell? ⟨b, off + u * 4 + 1, none⟩ = some (.int .i64 l[u].st) ∧ W.cell? ⟨b, off + u * 4 + 2, none⟩ = some (.int .i64 l[u].fr) ∧ W.cell? ⟨b, off + u * 4 + 3, none⟩ = some (.int .i64 l[u].to) ∧ W.cell? ⟨b, off + m * 4, none⟩ = some (.string l[m].name) ∧ W.cell? ⟨b, off + m * 4 + 1, none⟩ = some (.int .i64 l[m].st) ∧ W.cell? ⟨b, off + m * 4 + 2, none⟩ = some (.int .i64 l[m].fr) ∧ W.cell? ⟨b, off + m * 4 + 3, none⟩ = some (.int .i64 l[m].to)) (first | (exact ⟨(hb1.cell xp).trans p0, (hb1.cell hl).trans c0, (hb1.cell hl).trans c1, (hb1.cell hl).trans c2, (hb1.cell hl).trans c3, (hb1.cell hl).trans m0, (hb1.cell hl).trans m1, (hb1.cell hl).trans m2, (hb1.cell hl).trans m3⟩) | (exact ⟨p0, c0, c1, c2, c3, m0, m1, m2, m3⟩) | go_keep) (first | (go_at_call 51; refine (refNear_calls l[u] l[m] 0 tk tm (by omega) (by omega) _).mono ?_; rintro e w1 ⟨rfl, hb1⟩))
        all_goals
          have N1 : Hid (Below w.heap.size w w1) := Lib.hid (by first | exact Bgo nb.out hb1 | exact Bgo nb.out.drew hb1)
          have xl2 : w.heap.size + 1 ≤ w1.heap.size := Nat.le_trans (Nat.le_of_lt xl) hb1.size
          clear hb1
          have H63 : Hid (0 + 1 ≤ maxLen) := Lib.hid (by unfold maxLen; omega)
          have H64 : Hid ((0 + 1) * 24 ≤ 140737488355328) := Lib.hid (by omega)
          have H5 : Hid (∀ x, w.heap.size + 1 ≤ (w1.alloc x).heap.size) := Lib.hid (fun x => by simp; omega)
          go_wp2_with (at_builtin; refine wpList_append_own _ rfl _ _ 27 rfl (w.heap.size + 1) 68 i0 (.agg #[.int .i64 0, .int .i64 0, .int .i64 0]) 3 24 Try.underlying27 HI.out.1 HI.out.2.1 HI.out.2.2.1 HI.out.2.2.2 rfl (by decide) (.slice none 0 0) 0 [] rfl (World.ownsRow_nil _ _ _ _) ⟨w1.heap.size, 0, none⟩ 1 1 [.int .i64 (k : Int), .int .i64 (u : Int), .int .i64 (m : Int)] rfl rfl (new3 _ _ _ _ _) (one3 _ _ _) H63.out H64.out (H5.out _) ?_; intro v2 w2 hown2 hgrow2 hnil2)
          have N2 : Hid (Below w.heap.size w w2) := Lib.hid ((Bal N1.out _).grown hgrow2 (Bal N1.out _).size (by simp [Value.ownBlock]))
          have O2 := Lib.hid hown2
          clear hown2 hgrow2 hnil2
          go_wp2_with fail
          go_ret
          refine ⟨_, rfl, ?_, N2.out⟩
          rw [F3.out]
          exact (by simpa [bre] using O2.out.mono (show w.heap.size ≤ w.heap.size + 1 by omega))
set_option maxHeartbeats 4000000 in
set_option maxRecDepth 100000 in
theorem refBroken_4 (a : Option Addr) (cap : Nat) (l : List Slt) (a' : Option Addr) (cap' n' k : Nat) (r : Rul) (w : World) (hn : l.length ≤ cap) (hcap : cap ≤ 9223372036854775807) (h30 : l.length ≤ 30) (hs : SlotsIn w a l) (hk0 : k < n') (hn'0 : n' ≤ cap') (hcap' : cap' ≤ 9223372036854775807) (br offr : Nat) (ea' : a' = some ⟨br, offr, none⟩) (hlr : br < w.heap.size) (hr : RuleAt w br offr k r) (ht : Tms l) (k1 : (r.kind == 1) = false) (k2 : (r.kind == 2) = false) (k3 : (r.kind == 3) = false) (k4 : (r.kind == 4) = true) (hl0 : 0 ≤ r.low) (hlo : 0 ≤ r.high) (hhi : r.high ≤ 1000) :
    Calls Try.prog 40 #[Pv a l.length cap a' n' cap', .int .i64 (k : Int)] w (ListPost w (brokenL l r k)) := by
  have F : Hid (brokenL l r k = nearL l (k : Int) r.low r.high) := Lib.hid (by unfold brokenL; simp at k1; simp at k2; simp at k3; simp at k4; simp [*])
  generalize brokenL l r k = L at *
  obtain ⟨i0, hi, hz0, hz1, hz2⟩ := info_parts infoB
  have HI := Lib.hid (And.intro hi (And.intro hz0 (And.intro hz1 hz2)))
  clear hi hz0 hz1 hz2
  have HA := Lib.hid (findI_is l r.a)
  have HC := Lib.hid (findI_is l r.b)
  have HS := Lib.hid hs
  have HT := Lib.hid ht
  have FC := Lib.hid (fun (nm : ByteArray) (W : World) (hW : Below w.heap.size w W) => index_calls a cap l a' n' cap' nm W hn hcap (HS.out.next hW))
  clear hs ht
  subst ea'
  obtain ⟨r0, r1, r2, r3, r4, r5⟩ := hr
  have kq : (k : Int) < (n' : Int) := by omega
  have Z0 := Lib.hid (blk1 w (.cells #[.slice a l.length cap, .slice (some ⟨br, offr, none⟩) n' cap'] 25) (.cells #[.int .u8 r.kind, .string r.a, .string r.b, .int .i64 r.low, .int .i64 r.high, .string r.why] 61))
  have Z1 := Lib.hid (blk2 w (.cells #[.slice a l.length cap, .slice (some ⟨br, offr, none⟩) n' cap'] 25) (.cells #[.int .u8 r.kind, .string r.a, .string r.b, .int .i64 r.low, .int .i64 r.high, .string r.why] 61))
  have ZB : Hid (Below w.heap.size w ((w.alloc (.cells #[.slice a l.length cap, .slice (some ⟨br, offr, none⟩) n' cap'] 25)).alloc (.cells #[.int .u8 r.kind, .string r.a, .string r.b, .int .i64 r.low, .int .i64 r.high, .string r.why] 61))) := Lib.hid (Bal (Bal (Below.refl _ _) _) _)
  go_enter Try.func40, Try.ntmps40
  go_wp2_with fail
  go_region_held3 (fun W => W.cell? ⟨w.heap.size, 0, none⟩ = some (.slice a l.length cap) ∧ W.cell? ⟨w.heap.size, 1, none⟩ = some (.slice (some ⟨br, offr, none⟩) n' cap') ∧ W.cell? ⟨w.heap.size + 1, 1, none⟩ = some (.string r.a) ∧ W.cell? ⟨w.heap.size + 1, 2, none⟩ = some (.string r.b)) (first | (exact ⟨blk_cell pb.out 0 _ rfl, blk_cell pb.out 1 _ rfl, blk_cell yb.out 1 _ rfl, blk_cell yb.out 2 _ rfl⟩) | (exact ⟨blk_cell pa.out 0 _ rfl, blk_cell pa.out 1 _ rfl, blk_cell ya.out 1 _ rfl, blk_cell ya.out 2 _ rfl⟩) | (exact ⟨blk_cell Z0.out 0 _ rfl, blk_cell Z0.out 1 _ rfl, blk_cell Z1.out 1 _ rfl, blk_cell Z1.out 2 _ rfl⟩) | go_keep)
    (first | (go_at_call 31; refine (FC.out _ _ ?_).mono ?_; (first | exact na.out | exact na.out.drew); rintro e wb ⟨rfl, hbb⟩; have pb := Lib.hid (blk_next hbb pa.out); have yb := Lib.hid (blk_next hbb ya.out); have nb : Hid (Below w.heap.size w wb) := Lib.hid (by first | exact Bgo na.out hbb | exact Bgo na.out.drew hbb); clear hbb) | (go_at_call 31; refine (FC.out _ _ ?_).mono ?_; (first | exact ZB.out | exact ZB.out.drew); rintro e wa ⟨rfl, hba⟩; have pa := Lib.hid (blk_next hba Z0.out); have ya := Lib.hid (blk_next hba Z1.out); have na : Hid (Below w.heap.size w wa) := Lib.hid (by first | exact Bgo ZB.out hba | exact Bgo ZB.out.drew hba); clear hba))
  all_goals
    clear r0 r1 r2 r3 r4 r5
    generalize findI l r.a = fa at *
    generalize findI l r.b = fb at *
    clear FC
    have x0 : wb.cell? ⟨w.heap.size + 1, 0, none⟩ = some (.int .u8 r.kind) := blk_cell yb.out 0 _ rfl
    have x3 : wb.cell? ⟨w.heap.size + 1, 3, none⟩ = some (.int .i64 r.low) := blk_cell yb.out 3 _ rfl
    have x4 : wb.cell? ⟨w.heap.size + 1, 4, none⟩ = some (.int .i64 r.high) := blk_cell yb.out 4 _ rfl
    have p0 : wb.cell? ⟨w.heap.size, 0, none⟩ = some (.slice a l.length cap) := blk_cell pb.out 0 _ rfl
    have p1 : wb.cell? ⟨w.heap.size, 1, none⟩ = some (.slice (some ⟨br, offr, none⟩) n' cap') := blk_cell pb.out 1 _ rfl
    have xl := blk_lt yb.out
    go_wp2_with fail
    refine (pairs_calls a cap l (some ⟨br, offr, none⟩) n' cap' (k : Int) r.low r.high _ hn hcap h30 (HS.out.next nb.out) HT.out hlo hhi (by omega)).mono ?_
    rintro e w1 ⟨v, rfl, ho, hb⟩
    go_wp2_with fail
    go_ret
    exact ⟨_, rfl, by rw [F.out]; exact ho.mono nb.out.size, Bgo nb.out hb⟩
set_option maxHeartbeats 4000000 in
set_option maxRecDepth 100000 in
theorem refBroken_5 (a : Option Addr) (cap : Nat) (l : List Slt) (a' : Option Addr) (cap' n' k : Nat) (r : Rul) (w : World) (hn : l.length ≤ cap) (hcap : cap ≤ 9223372036854775807) (h30 : l.length ≤ 30) (hs : SlotsIn w a l) (hk0 : k < n') (hn'0 : n' ≤ cap') (hcap' : cap' ≤ 9223372036854775807) (br offr : Nat) (ea' : a' = some ⟨br, offr, none⟩) (hlr : br < w.heap.size) (hr : RuleAt w br offr k r) (ht : Tms l) (k1 : (r.kind == 1) = false) (k2 : (r.kind == 2) = false) (k3 : (r.kind == 3) = false) (k4 : (r.kind == 4) = false) (k5 : (r.kind == 5) = true) :
    Calls Try.prog 40 #[Pv a l.length cap a' n' cap', .int .i64 (k : Int)] w (ListPost w (brokenL l r k)) := by
  have F : Hid (brokenL l r k = holdTo l (k : Int) (findI l r.a) r.low r.high l.length) := Lib.hid (by unfold brokenL; simp at k1; simp at k2; simp at k3; simp at k4; simp at k5; simp [*])
  generalize brokenL l r k = L at *
  obtain ⟨i0, hi, hz0, hz1, hz2⟩ := info_parts infoB
  have HI := Lib.hid (And.intro hi (And.intro hz0 (And.intro hz1 hz2)))
  clear hi hz0 hz1 hz2
  have HA := Lib.hid (findI_is l r.a)
  have HC := Lib.hid (findI_is l r.b)
  have HS := Lib.hid hs
  have HT := Lib.hid ht
  have FC := Lib.hid (fun (nm : ByteArray) (W : World) (hW : Below w.heap.size w W) => index_calls a cap l a' n' cap' nm W hn hcap (HS.out.next hW))
  clear hs ht
  subst ea'
  obtain ⟨r0, r1, r2, r3, r4, r5⟩ := hr
  have kq : (k : Int) < (n' : Int) := by omega
  have Z0 := Lib.hid (blk1 w (.cells #[.slice a l.length cap, .slice (some ⟨br, offr, none⟩) n' cap'] 25) (.cells #[.int .u8 r.kind, .string r.a, .string r.b, .int .i64 r.low, .int .i64 r.high, .string r.why] 61))
  have Z1 := Lib.hid (blk2 w (.cells #[.slice a l.length cap, .slice (some ⟨br, offr, none⟩) n' cap'] 25) (.cells #[.int .u8 r.kind, .string r.a, .string r.b, .int .i64 r.low, .int .i64 r.high, .string r.why] 61))
  have ZB : Hid (Below w.heap.size w ((w.alloc (.cells #[.slice a l.length cap, .slice (some ⟨br, offr, none⟩) n' cap'] 25)).alloc (.cells #[.int .u8 r.kind, .string r.a, .string r.b, .int .i64 r.low, .int .i64 r.high, .string r.why] 61))) := Lib.hid (Bal (Bal (Below.refl _ _) _) _)
  go_enter Try.func40, Try.ntmps40
  go_wp2_with fail
  go_region_held3 (fun W => W.cell? ⟨w.heap.size, 0, none⟩ = some (.slice a l.length cap) ∧ W.cell? ⟨w.heap.size, 1, none⟩ = some (.slice (some ⟨br, offr, none⟩) n' cap') ∧ W.cell? ⟨w.heap.size + 1, 1, none⟩ = some (.string r.a) ∧ W.cell? ⟨w.heap.size + 1, 2, none⟩ = some (.string r.b)) (first | (exact ⟨blk_cell pb.out 0 _ rfl, blk_cell pb.out 1 _ rfl, blk_cell yb.out 1 _ rfl, blk_cell yb.out 2 _ rfl⟩) | (exact ⟨blk_cell pa.out 0 _ rfl, blk_cell pa.out 1 _ rfl, blk_cell ya.out 1 _ rfl, blk_cell ya.out 2 _ rfl⟩) | (exact ⟨blk_cell Z0.out 0 _ rfl, blk_cell Z0.out 1 _ rfl, blk_cell Z1.out 1 _ rfl, blk_cell Z1.out 2 _ rfl⟩) | go_keep)
    (first | (go_at_call 31; refine (FC.out _ _ ?_).mono ?_; (first | exact na.out | exact na.out.drew); rintro e wb ⟨rfl, hbb⟩; have pb := Lib.hid (blk_next hbb pa.out); have yb := Lib.hid (blk_next hbb ya.out); have nb : Hid (Below w.heap.size w wb) := Lib.hid (by first | exact Bgo na.out hbb | exact Bgo na.out.drew hbb); clear hbb) | (go_at_call 31; refine (FC.out _ _ ?_).mono ?_; (first | exact ZB.out | exact ZB.out.drew); rintro e wa ⟨rfl, hba⟩; have pa := Lib.hid (blk_next hba Z0.out); have ya := Lib.hid (blk_next hba Z1.out); have na : Hid (Below w.heap.size w wa) := Lib.hid (by first | exact Bgo ZB.out hba | exact Bgo ZB.out.drew hba); clear hba))
  all_goals
    clear r0 r1 r2 r3 r4 r5
    generalize findI l r.a = fa at *
    generalize findI l r.b = fb at *
    clear FC
    have x0 : wb.cell? ⟨w.heap.size + 1, 0, none⟩ = some (.int .u8 r.kind) := blk_cell yb.out 0 _ rfl
    have x3 : wb.cell? ⟨w.heap.size + 1, 3, none⟩ = some (.int .i64 r.low) := blk_cell yb.out 3 _ rfl
    have x4 : wb.cell? ⟨w.heap.size + 1, 4, none⟩ = some (.int .i64 r.high) := blk_cell yb.out 4 _ rfl
    have p0 : wb.cell? ⟨w.heap.size, 0, none⟩ = some (.slice a l.length cap) := blk_cell pb.out 0 _ rfl
    have p1 : wb.cell? ⟨w.heap.size, 1, none⟩ = some (.slice (some ⟨br, offr, none⟩) n' cap') := blk_cell pb.out 1 _ rfl
    have xl := blk_lt yb.out
    go_wp2_with fail
    go_loopw [8, 9] (fun v i wr => ∃ u : Nat, u ≤ l.length ∧ i = .int .i64 u ∧ Hid (Below w.heap.size w wr) ∧ Hid (wr.heap[w.heap.size + 1]? = some (.cells #[.int .u8 r.kind, .string r.a, .string r.b, .int .i64 r.low, .int .i64 r.high, .string r.why] 61)) ∧ Hid (wr.heap[w.heap.size]? = some (.cells #[.slice a l.length cap, .slice (some ⟨br, offr, none⟩) n' cap'] 25)) ∧ Hid (wr.ownsRow (w.heap.size + 2) 68 3 v (holdTo l (k : Int) fa r.low r.high u).length (bre (holdTo l (k : Int) fa r.low r.high u)))) (fun _ i _ => l.length - (intOf i).toNat)
    case atStart => exact ⟨0, by omega, rfl, nb, yb, pb, Lib.hid ⟨rfl, .inl ⟨rfl, rfl⟩⟩⟩
    case round =>
      obtain ⟨u, hu, rfl, HB, HX, HP0, HO⟩ := hrel
      clear x0 x3 x4 xl p0 p1
      have x3 : wr.cell? ⟨w.heap.size + 1, 3, none⟩ = some (.int .i64 r.low) := blk_cell HX.out 3 _ rfl
      have x4 : wr.cell? ⟨w.heap.size + 1, 4, none⟩ = some (.int .i64 r.high) := blk_cell HX.out 4 _ rfl
      have p0 : wr.cell? ⟨w.heap.size, 0, none⟩ = some (.slice a l.length cap) := blk_cell HP0.out 0 _ rfl
      have p1 : wr.cell? ⟨w.heap.size, 1, none⟩ = some (.slice (some ⟨br, offr, none⟩) n' cap') := blk_cell HP0.out 1 _ rfl
      have xl := blk_lt HX.out
      by_cases hlt : u < l.length
      · obtain ⟨b, off, rfl, hl, c0, c1, c2, c3⟩ := (HS.out.next HB.out) u hlt
        have hR1 := holdTo_len l (k : Int) fa r.low r.high u
        have HP := Lib.hid (holdTo_succ l (k : Int) fa r.low r.high u)
        have HPB : Hid (holdB l fa r.low r.high u = (((u : Int) != fa) && ((l[u].st == r.low) && decide (l[u].fr < r.high)))) := Lib.hid (by unfold holdB; rw [getD_eq hlt]; rfl)
        generalize holdB l fa r.low r.high u = pb' at *
        have km0 : (0 : Int) ≤ (u : Int) := by omega
        have km1 : (u : Int) < (l.length : Int) := by omega
        have qq : (((u : Int) != fa) = false) ∨ (((u : Int) != fa) = true ∧ (l[u].st == r.low) = false) ∨ (((u : Int) != fa) = true ∧ (l[u].st == r.low) = true ∧ decide (l[u].fr < r.high) = false) ∨ (((u : Int) != fa) = true ∧ (l[u].st == r.low) = true ∧ decide (l[u].fr < r.high) = true) := by
          cases q1 : ((u : Int) != fa) <;> cases q2 : (l[u].st == r.low) <;> cases q3 : decide (l[u].fr < r.high) <;> simp
        rcases qq with q1 | ⟨q1, q2⟩ | ⟨q1, q2, q3⟩ | ⟨q1, q2, q3⟩
        · have Fp : Hid (pb' = false) := Lib.hid (by rw [HPB.out, q1]; rfl)
          go_wp2_with fail
          go_quiet (fail)
          go_wp2_with fail
          refine ⟨⟨u + 1, by omega, by go_num, Lib.hid (below_drewN HB.out _), Lib.hid (blk_drewN HX.out _), Lib.hid (blk_drewN HP0.out _), Lib.hid ?_⟩, by simp [intOf]; omega⟩
          rw [HP.out, Fp.out, if_neg (by decide), List.append_nil]
          exact HO.out
        · have Fp : Hid (pb' = false) := Lib.hid (by rw [HPB.out, q1, q2]; rfl)
          go_wp2_with fail
          go_quiet (fail)
          go_wp2_with fail
          refine ⟨⟨u + 1, by omega, by go_num, Lib.hid (below_drewN HB.out _), Lib.hid (blk_drewN HX.out _), Lib.hid (blk_drewN HP0.out _), Lib.hid ?_⟩, by simp [intOf]; omega⟩
          rw [HP.out, Fp.out, if_neg (by decide), List.append_nil]
          exact HO.out
        · have Fp : Hid (pb' = false) := Lib.hid (by rw [HPB.out, q1, q2, q3]; rfl)
          go_wp2_with fail
          go_quiet (fail)
          go_wp2_with fail
          refine ⟨⟨u + 1, by omega, by go_num, Lib.hid (below_drewN HB.out _), Lib.hid (blk_drewN HX.out _), Lib.hid (blk_drewN HP0.out _), Lib.hid ?_⟩, by simp [intOf]; omega⟩
          rw [HP.out, Fp.out, if_neg (by decide), List.append_nil]
          exact HO.out
        · have Fp : Hid (pb' = true) := Lib.hid (by rw [HPB.out, q1, q2, q3]; rfl)
          have H63 : Hid ((holdTo l (k : Int) fa r.low r.high u).length + 1 ≤ maxLen) := Lib.hid (by unfold maxLen; omega)
          have H64 : Hid (((holdTo l (k : Int) fa r.low r.high u).length + 1) * 24 ≤ 140737488355328) := Lib.hid (by omega)
          have HOd := Lib.hid (fun n : Nat => own_drewN HO.out n)
          have H5 : Hid (∀ n x, w.heap.size + 2 ≤ ((wr.drewN n).alloc x).heap.size) := Lib.hid (fun n x => by simp; omega)
          go_wp2_with fail
          go_quiet (fail)
          go_wp2_with (at_builtin; refine wpList_append_own _ rfl _ _ 27 rfl (w.heap.size + 2) 68 i0 (.agg #[.int .i64 0, .int .i64 0, .int .i64 0]) 3 24 Try.underlying27 HI.out.1 HI.out.2.1 HI.out.2.2.1 HI.out.2.2.2 rfl (by decide) _ _ _ rfl ((HOd.out _).alloc _) ⟨wr.heap.size, 0, none⟩ 1 1 [.int .i64 (k : Int), .int .i64 (u : Int), .int .i64 (-1)] rfl rfl (new3 _ _ _ _ _) (one3 _ _ _) H63.out H64.out (H5.out _ _) ?_; intro v2 w2 hown2 hgrow2 hnil2)
          have HB4 : Hid (Below w.heap.size w w2) := Lib.hid (own_below2 ((HOd.out _).alloc _) (Bal (below_drewN HB.out _) _) (by omega) hgrow2)
          have HX4 := Lib.hid (grown_blk ((HOd.out _).alloc _) (blk_alloc (blk_drewN HX.out _) _) (by omega) hgrow2)
          have HP4 := Lib.hid (grown_blk ((HOd.out _).alloc _) (blk_alloc (blk_drewN HP0.out _) _) (by omega) hgrow2)
          have HO4 := Lib.hid hown2
          clear hown2 hgrow2 hnil2
          go_wp2_with fail
          refine ⟨⟨u + 1, by omega, by go_num, HB4, HX4, HP4, Lib.hid ?_⟩, by simp [intOf]; omega⟩
          rw [HP.out, Fp.out, if_pos rfl, bre_append, List.length_append]
          exact HO4.out
      · obtain rfl : u = l.length := by omega
        go_wp2_with fail
        go_ret
        exact ⟨_, rfl, by rw [F.out]; exact HO.out.mono (by omega), HB.out⟩
theorem refBroken_calls (a : Option Addr) (cap : Nat) (l : List Slt) (a' : Option Addr) (cap' : Nat) (rs : List Rul) (k : Nat) (w : World) (hn : l.length ≤ cap) (hcap : cap ≤ 9223372036854775807) (h30 : l.length ≤ 30) (hs : SlotsIn w a l) (hn' : rs.length ≤ cap') (hcap' : cap' ≤ 9223372036854775807) (hr : RulesIn w a' rs) (hk : k < rs.length) (ht : Tms l) (hok : ruleB rs[k] = true) :
    Calls Try.prog 40 #[Pv a l.length cap a' rs.length cap', .int .i64 (k : Int)] w (ListPost w (brokenL l rs[k] k)) := by
  obtain ⟨br, offr, ea, hlr, hra⟩ := hr k hk
  generalize rs[k] = r at *
  generalize rs.length = n' at *
  rcases rule_kind hok with k1 | ⟨k1, k2⟩ | ⟨k1, k2, k3⟩ | ⟨k1, k2, k3, k4⟩ | ⟨k1, k2, k3, k4, k5⟩
  · exact refBroken_1 a cap l a' cap' n' k r w hn hcap h30 hs hk hn' hcap' br offr ea hlr hra ht k1
  · obtain ⟨h1, h2⟩ := rule_two hok (by simpa using k2)
    exact refBroken_2 a cap l a' cap' n' k r w hn hcap h30 hs hk hn' hcap' br offr ea hlr hra ht k1 k2 h1 h2
  · exact refBroken_3 a cap l a' cap' n' k r w hn hcap h30 hs hk hn' hcap' br offr ea hlr hra ht k1 k2 k3
  · obtain ⟨h1, h2, h3, h4⟩ := rule_four hok (by simpa using k4)
    exact refBroken_4 a cap l a' cap' n' k r w hn hcap h30 hs hk hn' hcap' br offr ea hlr hra ht k1 k2 k3 k4 h1 h3 h4
  · exact refBroken_5 a cap l a' cap' n' k r w hn hcap h30 hs hk hn' hcap' br offr ea hlr hra ht k1 k2 k3 k4 k5
end Go.Proofs.Ythmfjlphmamegaa
