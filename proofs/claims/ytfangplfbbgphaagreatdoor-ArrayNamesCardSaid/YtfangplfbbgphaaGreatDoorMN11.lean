/- Several texts in one. -/
import Derived.Laws.OwnMore
import Derived.Deep.Slices
import Derived.Deep.Fields
import Derived.ChangeSame
import Derived.ChangeArms
import Derived.ChangeSlices
import Derived.Lib.SmallJoins
import Derived.Test.YtfangplfbbgphaaGreatDoorMN10
namespace Go.Proofs.YtfangplfbbgphaaGreatDoor
open Go.ChangeShapes Go.WideShapes Go.ChangeAt Go.RowKit
set_option linter.unusedVariables false
set_option maxRecDepth 100000
set_option linter.unusedSimpArgs false
attribute [local go_sem ↓] Go.wp_at_zero Go.wp_at_succ
def zS : St := ⟨⟨#[]⟩, 0, 0, 0, 0⟩
theorem infoS : (Tryz.prog.info? 69).map (fun i => (i.zero, i.size, i.bytes)) = some (some (.agg #[.string ⟨#[]⟩, .int .i64 0, .int .i64 0, .int .i64 0, .int .i64 0]), 5, 48) := by kernel_rfl
theorem infoSs : (Tryz.prog.info? 69).map (·.size) = some 5 := by kernel_rfl
theorem und_sites : Tryz.prog.underlying 24 = some (.slice 69) := by kernel_rfl
theorem made_sites {n : Nat} (h : n ≤ 8) : madeCells #[.string ⟨#[]⟩, .int .i64 0, .int .i64 0, .int .i64 0, .int .i64 0] (n * 5) = ((List.replicate n zS).flatMap st5).toArray := by
 have hn : n = 0 ∨ n = 1 ∨ n = 2 ∨ n = 3 ∨ n = 4 ∨ n = 5 ∨ n = 6 ∨ n = 7 ∨ n = 8 := by omega
 rcases hn with rfl | rfl | rfl | rfl | rfl | rfl | rfl | rfl | rfl
 all_goals (show madeCells _ _ = _; kernel_rfl)
theorem make_sites {n : Nat} (h : n ≤ 8) (W : World) : (Instr.makeSlice 24 (.int .i64 (n : Int)) (.int .i64 (n : Int))).run Tryz.prog W = .ok (.slice (some ⟨W.heap.size, 0, none⟩) n n) (W.alloc (.cells ((List.replicate n zS).flatMap st5).toArray 69)) := by
 obtain ⟨i, hi, hz, hs, hb⟩ := info_parts infoS
 have h1 := run_make (P := Tryz.prog) W 24 69 i _ und_sites hi hz .i64 .i64 (n : Int) (n : Int) (by omega) (by omega) (by rw [hb]; omega) (by omega)
 rw [hs, Int.toNat_natCast] at h1
 rw [h1]
 unfold Value.cells
 simp only
 rw [made_sites h]
abbrev OSt (B : Nat) (w : World) (v : Value) (l : List St) : Prop := w.ownsRow B 69 5 v l.length (l.flatMap st5)
theorem ost_nil (B : Nat) (w : World) : w.ownsRow B 69 5 (.slice none 0 0) 0 [] := World.ownsRow_nil _ _ _ _
def ordE (A B : Int) (l : List St) (q : List Int) : Int := if plE A B l ≠ 0 then plE A B l else if ordB q l.length then 0 else 2
def ordL (l : List St) (q : List Int) : List St := q.map fun x => l.getD x.toNat zS
theorem ordL_take {l : List St} {q : List Int} {k t : Nat} {s : St} (hq : q[k]? = some (t : Int)) (hs : l[t]? = some s) : ordL l (q.take (k + 1)) = ordL l (q.take k) ++ [s] := by
 have hlt := get_lt hq
 have e : q[k] = (t : Int) := by rw [List.getElem?_eq_getElem hlt] at hq; exact Option.some.inj hq
 unfold ordL
 rw [List.take_succ_eq_append_getElem hlt, List.map_append, e]
 simp [List.getD_eq_getElem?_getD, hs]
def rowsS (l : List St) (q : List Int) (n k : Nat) : List St := ordL l (q.take k) ++ List.replicate (n - k) zS
theorem rowsS_len {l : List St} {q : List Int} {n k : Nat} (h : k ≤ n) (hq : q.length = n) : (rowsS l q n k).length = n := by
 unfold rowsS ordL
 simp; omega
theorem rowsS_set {l : List St} {q : List Int} {n k t : Nat} {s : St} (hn : q.length = n) (hq : q[k]? = some (t : Int)) (hs : l[t]? = some s) : (rowsS l q n k).set k s = rowsS l q n (k + 1) := by
 have hlt := get_lt hq
 unfold rowsS
 obtain ⟨m, hm⟩ : ∃ m, n - k = m + 1 := ⟨n - k - 1, by omega⟩
 have hl : (ordL l (q.take k)).length = k := by unfold ordL; simp; omega
 rw [hm, show n - (k + 1) = m by omega, List.replicate_succ, List.set_append_right _ _ (by omega), hl, Nat.sub_self, List.set_cons_zero, ordL_take hq hs, List.append_assoc]
 rfl
theorem rowsS_zero (l : List St) (q : List Int) (n : Nat) : rowsS l q n 0 = List.replicate n zS := by unfold rowsS ordL; simp
theorem rowsS_all {l : List St} {q : List Int} {n : Nat} (hn : q.length = n) : rowsS l q n n = ordL l q := by unfold rowsS; rw [← hn]; simp
set_option maxRecDepth 100000 in
set_option maxHeartbeats 8000000 in
theorem aorder_calls {A B : Int} {a : Option Addr} {c : Nat} {l : List St} {w : World} {aq : Option Addr} {cq : Nat} {q : List Int} (hl : RSt w a l) (hc : l.length ≤ c) (hc' : c ≤ 9223372036854775807) (hn : ∀ x ∈ l, x.nm.size ≤ 9223372036854775807) (hq : Rd w 1 aq q.length (lv q)) (hcq : q.length ≤ cq) (hcq' : cq ≤ 9223372036854775807) : Calls Tryz.prog 25 #[Gv A B, .slice a l.length c, .slice aq q.length cq] w fun e w' =>
  ∃ v, e = .returned (.tuple #[v, .int .i64 (ordE A B l q)]) ∧ Below w.heap.size w w' ∧ (ordE A B l q ≠ 0 → v = .slice none 0 0) ∧
   (ordE A B l q = 0 → ∃ g, v = .slice (some ⟨g, 0, none⟩) l.length l.length ∧ w.heap.size ≤ g ∧ w'.heap[g]? = some (.cells ((ordL l q).flatMap st5).toArray 69)) := by
 have NN := Lib.hid (Below.refl w.heap.size w)
 have CC := Lib.hid (fun (W : World) (hb : Below w.heap.size w W) => acheck_calls (A := A) (B := B) (w := W) (hl.next hb) hc hc' hn)
 have OE : Hid (ordE A B l q = if plE A B l ≠ 0 then plE A B l else if ordB q l.length then 0 else 2) := Lib.hid rfl
 have L8 := Lib.hid (fun (h : plE A B l = 0) => (stsE_ok (plE_ok h).2.1).1)
 obtain ⟨oe, hoe⟩ : ∃ oe, ordE A B l q = oe := ⟨_, rfl⟩
 obtain ⟨pe, hpe⟩ : ∃ pe, plE A B l = pe := ⟨_, rfl⟩
 simp only [hpe, hoe] at CC OE L8 ⊢
 have HL := Lib.hid hl
 have HQ := Lib.hid hq
 clear hl hn hpe hoe hq
 go_enter Tryz.func25, Tryz.ntmps25
 go_wp2_with fail
 have G : Hid ((w.alloc (.cells #[.int .i64 A, .int .i64 B] 23)).heap[w.heap.size]? = some (.cells #[.int .i64 A, .int .i64 B] 23)) := Lib.hid (blk_new w _)
 replace NN : Hid (Below w.heap.size w (w.alloc (.cells #[.int .i64 A, .int .i64 B] 23))) := Lib.hid (Bal NN.out _)
 generalize (w.alloc (.cells #[.int .i64 A, .int .i64 B] 23)) = W1 at *
 refine (CC.out _ NN.out).mono ?_
 rintro e w2 ⟨rfl, hb⟩
 replace NN := Lib.hid (Bgo NN.out hb)
 replace G := Lib.hid (blk_next hb G.out)
 clear hb
 by_cases he : pe ≠ 0
 ·have q1 : (pe != 0) = true := by simpa using he
  have HE : Hid (oe = pe) := Lib.hid (by rw [OE.out, if_pos he])
  have HP := Lib.hid he
  clear he OE L8 CC
  go_wp2_with fail
  refine bodyPost_ret (v := .tuple #[.slice none 0 0, .int .i64 pe]) (by simp [results, Tryz.results25, go_sem]) rfl ⟨_, by rw [HE.out], NN.out, fun _ => rfl, fun h => absurd (HE.out.symm.trans h) HP.out⟩
 have he0 : pe = 0 := by omega
 subst he0
 clear he CC
 rw [if_neg (by simp)] at OE
 have l8 := L8.out rfl
 have H8 := Lib.hid l8
 by_cases hlen : q.length = l.length
 rotate_left
 ·have HE : Hid (oe = 2) := Lib.hid (by rw [OE.out, show ordB q l.length = false by unfold ordB; rw [decide_eq_false hlen]; rfl]; rfl)
  have q1 : ((q.length : Int) != (l.length : Int)) = true := by rw [bne_iff_ne]; omega
  clear OE L8 hlen l8
  go_wp2_with fail
  refine bodyPost_ret (v := .tuple #[.slice none 0 0, .int .i64 2]) (by simp [results, Tryz.results25, go_sem]) rfl ⟨_, by rw [HE.out], NN.out, fun _ => rfl, fun h => absurd (HE.out.symm.trans h) (by decide)⟩
 have q1 : ((q.length : Int) != (l.length : Int)) = false := by rw [bne_eq_false_iff_eq]; omega
 have HLN := Lib.hid hlen
 have MK := fun W => make_sites l8 W
 have NO := Lib.hid (fun (k : Nat) (x : Int) (hx : q[k]? = some x) (h : okO q l.length k = false) => (show oe = 2 by rw [OE.out, ordB_no hx h]; rfl))
 have YES := Lib.hid (fun (h : ∀ k, k < q.length → okO q l.length k = true) => (show oe = 0 by rw [OE.out, ordB_yes hlen h]; rfl))
 clear OE L8 hlen l8
 go_wp2_with fail
 have HB := Lib.hid (show Below w2.heap.size w2 ((w2.alloc (.cells #[.bool false, .bool false, .bool false, .bool false, .bool false, .bool false, .bool false, .bool false] 126)).alloc (.cells ((List.replicate l.length zS).flatMap st5).toArray 69)) from Bal (Bal (Below.refl _ _) _) _)
 have UB : Hid (((w2.alloc (.cells #[.bool false, .bool false, .bool false, .bool false, .bool false, .bool false, .bool false, .bool false] 126)).alloc (.cells ((List.replicate l.length zS).flatMap st5).toArray 69)).heap[w2.heap.size]? = some (.cells #[.bool false, .bool false, .bool false, .bool false, .bool false, .bool false, .bool false, .bool false] 126)) := Lib.hid (blk_alloc (blk_new w2 _) _)
 have RB : Hid (((w2.alloc (.cells #[.bool false, .bool false, .bool false, .bool false, .bool false, .bool false, .bool false, .bool false] 126)).alloc (.cells ((List.replicate l.length zS).flatMap st5).toArray 69)).heap[w2.heap.size + 1]? = some (.cells ((List.replicate l.length zS).flatMap st5).toArray 69)) := Lib.hid (blk_at _ (by simp))
 have LU : Hid (w.heap.size ≤ w2.heap.size) := Lib.hid NN.out.size
 replace NN := Lib.hid (Bgo NN.out HB.out)
 replace G := Lib.hid (blk_next HB.out G.out)
 clear HB MK
 generalize ((w2.alloc (.cells #[.bool false, .bool false, .bool false, .bool false, .bool false, .bool false, .bool false, .bool false] 126)).alloc (.cells ((List.replicate l.length zS).flatMap st5).toArray 69)) = W0 at *
 generalize w2.heap.size = gU at *
 rw [show (#[.bool false, .bool false, .bool false, .bool false, .bool false, .bool false, .bool false, .bool false] : Array Value) = (usedC q 0 8).toArray by rw [usedC_zero]; rfl] at UB
 rw [← rowsS_zero l q l.length] at RB
 go_loopw [29] (fun i wr => ∃ k : Nat, k ≤ q.length ∧ i = .int .i64 k ∧ Hid (Below w.heap.size w wr) ∧ Hid (wr.heap[gU]? = some (.cells (usedC q k 8).toArray 126)) ∧ Hid (wr.heap[gU + 1]? = some (.cells ((rowsS l q l.length k).flatMap st5).toArray 69)) ∧ Hid (∀ t, t < k → okO q l.length t = true)) (fun i _ => q.length - (intOf i).toNat)
 case atStart => exact ⟨0, by omega, rfl, NN, UB, RB, Lib.hid (by omega)⟩
 case round =>
  clear NN G UB RB
  obtain ⟨k, hk, rfl, NN, UB, RB, GD⟩ := hrel
  by_cases hlt : k < q.length
  ·obtain ⟨x, hx⟩ := get_some hlt
   obtain ⟨b, off, e, hb, hc0⟩ := HQ.out.2 (by omega)
   subst e
   have cq := (NN.out.cell (p := ⟨b, off + k, none⟩) hb).trans (hc0 k _ (lv_get hx))
   have hbr : b < wr.heap.size := Nat.lt_of_lt_of_le hb NN.out.size
   have HX := Lib.hid hx
   have kk : k + 1 ≤ q.length := hlt
   have hc3 : x < 0 ∨ (0 ≤ x ∧ (l.length : Int) ≤ x) ∨ (0 ≤ x ∧ x < l.length) := by omega
   clear hc0 hx hb
   rcases hc3 with h | ⟨h, h1⟩ | ⟨h, h1⟩
   ·have HE := Lib.hid (NO.out k x HX.out (by unfold okO; rw [HX.out]; simp only; rw [decide_eq_false (by omega : ¬ 0 ≤ x)]; rfl))
    have d1 : decide (x < 0) = true := decide_eq_true h
    clear NO YES GD HX
    go_wp2_with fail
    refine bodyPost_ret (v := .tuple #[.slice none 0 0, .int .i64 2]) (by simp [results, Tryz.results25, go_sem]) rfl ⟨_, by rw [HE.out], NN.out, fun _ => rfl, fun h => absurd (HE.out.symm.trans h) (by decide)⟩
   ·have HE := Lib.hid (NO.out k x HX.out (by unfold okO; rw [HX.out]; simp only; rw [decide_eq_false (by omega : ¬ x < (l.length : Int))]; simp))
    have d1 : decide (x < 0) = false := decide_eq_false (by omega)
    have d2 : decide ((l.length : Int) ≤ x) = true := decide_eq_true h1
    clear NO YES GD HX
    go_wp2_with fail
    refine bodyPost_ret (v := .tuple #[.slice none 0 0, .int .i64 2]) (by simp [results, Tryz.results25, go_sem]) rfl ⟨_, by rw [HE.out], NN.out, fun _ => rfl, fun h => absurd (HE.out.symm.trans h) (by decide)⟩
   ·obtain ⟨t, rfl⟩ := Int.eq_ofNat_of_zero_le h
    have tn : t < l.length := by omega
    have t8 : t < 8 := by have := H8.out; omega
    have cu := blk_cell UB.out t _ (by rw [List.getElem?_toArray]; exact usedC_get q k t8)
    have lu := blk_lt UB.out
    have fu := blk_frozen UB.out t
    have d1 : decide ((t : Int) < 0) = false := decide_eq_false (by omega)
    have d2 : decide ((l.length : Int) ≤ (t : Int)) = false := decide_eq_false (by omega)
    have d3 : (l.length ≤ t) = False := by simp; omega
    have d4 : decide (l.length ≤ t) = false := decide_eq_false (by omega)
    have kt : (0 : Int) ≤ (t : Int) := h
    have kt2 : (t : Int) < (l.length : Int) := h1
    have T8 := Lib.hid t8
    have TN := Lib.hid tn
    clear h h1
    cases hu : (q.take k).contains (t : Int)
    ·have OK : Hid (okO q l.length k = true) := Lib.hid (by unfold okO; rw [HX.out]; simp only; rw [hu, decide_eq_true kt, decide_eq_true kt2]; rfl)
     rw [hu] at cu
     clear hu NO YES
     obtain ⟨s, hs⟩ := get_some tn
     obtain ⟨b1, off1, e, hb1, hc1⟩ := Rd.rec_ HL.out (Nat.le_refl _) st5_len hs
     subst e
     have c0 := (NN.out.cell (p := ⟨b1, off1 + t * 5, none⟩) hb1).trans (hc1 0 _ rfl)
     have c1 := (NN.out.cell (p := ⟨b1, off1 + t * 5 + 1, none⟩) hb1).trans (hc1 1 _ rfl)
     have c2 := (NN.out.cell (p := ⟨b1, off1 + t * 5 + 2, none⟩) hb1).trans (hc1 2 _ rfl)
     have c3 := (NN.out.cell (p := ⟨b1, off1 + t * 5 + 3, none⟩) hb1).trans (hc1 3 _ rfl)
     have c4 := (NN.out.cell (p := ⟨b1, off1 + t * 5 + 4, none⟩) hb1).trans (hc1 4 _ rfl)
     have hbr1 : b1 < wr.heap.size := Nat.lt_of_lt_of_le hb1 NN.out.size
     have HB1 := Lib.hid hb1
     have HS := Lib.hid hs
     have n1 : ¬ b1 = gU := by have := LU.out; omega
     have n2 : ¬ gU = b1 := by have := LU.out; omega
     have HK : Hid (k < (rowsS l q l.length k).length) := Lib.hid (by rw [rowsS_len (by have := HLN.out; omega) HLN.out, ← HLN.out]; exact hlt)
     have kq : k < l.length := by have := HLN.out; omega
     have lr := blk_lt RB.out
     clear hc1 hs hb1
     have R1 : Hid ((wr.setCell ⟨gU, t, none⟩ (.bool true)).heap[gU + 1]? = some (.cells ((rowsS l q l.length k).flatMap st5).toArray 69)) := Lib.hid (blk_set_other RB.out (by omega) t _)
     go_wp2_with ((with_reducible refine (show wpList _ _ _ (Oper.mk none (Op.store 69 _ _) _ _ _ _ :: _) _ _ from ?_)); (refine wpList_store_rec rfl 69 _ _ rfl st5 5 st5_len st5_one (gU + 1) k (rowsS l q l.length k) s HK.out _ rfl rfl rfl 69 R1.out infoSs ?_))
     go_roundw
     case rel => exact ⟨k + 1, kk, by go_num, Lib.hid (below_setRow (Bset1 NN.out LU.out t (.bool true)) (Nat.le_succ_of_le LU.out) _), Lib.hid ((setRow_other _ (gU + 1) gU _ (by omega)).trans (by have h := blk_set UB.out t (.bool true); rw [List.setIfInBounds_toArray, usedC_set T8.out HX.out] at h; exact h)), Lib.hid ((setRow_heap _ (gU + 1) _ (((rowsS l q l.length k).set k s).flatMap st5).toArray _ _ R1.out).trans (by rw [rowsS_set HLN.out HX.out HS.out])), Lib.hid (fun u hu => by
      by_cases e : u = k
      ·subst e; exact OK.out
      ·exact GD.out u (by omega))⟩
     case measure => simp [intOf]; omega
    ·have HE := Lib.hid (NO.out k _ HX.out (by unfold okO; rw [HX.out]; simp only; rw [hu]; simp))
     rw [hu] at cu
     clear NO YES GD HX hu
     go_wp2_with fail
     refine bodyPost_ret (v := .tuple #[.slice none 0 0, .int .i64 2]) (by simp [results, Tryz.results25, go_sem]) rfl ⟨_, by rw [HE.out], NN.out, fun _ => rfl, fun h => absurd (HE.out.symm.trans h) (by decide)⟩
  ·obtain rfl : k = q.length := by omega
   have HE := Lib.hid (YES.out GD.out)
   rw [HLN.out, rowsS_all HLN.out] at RB
   clear NO YES GD UB
   go_wp2_with fail
   refine bodyPost_ret (by simp [results, Tryz.results25, go_sem]; rfl) rfl ⟨_, by rw [HE.out], NN.out, fun h => absurd HE.out h, fun _ => ⟨gU + 1, rfl, Nat.le_succ_of_le LU.out, RB.out⟩⟩
end Go.Proofs.YtfangplfbbgphaaGreatDoor
namespace Go.Proofs.YtfangplfbbgphaaGreatDoor
open Go.ChangeShapes Go.WideShapes Go.ChangeAt Go.RowKit
set_option linter.unusedVariables false
set_option maxRecDepth 100000
set_option linter.unusedSimpArgs false
attribute [local go_sem ↓] Go.wp_at_zero Go.wp_at_succ
attribute [local go_sem] Oper.semAt_some
theorem infoR : (Tryz.prog.info? 43).map (fun i => (i.zero, i.size, i.bytes)) = some (some (.agg #[.int .i64 0, .int .i64 0]), 2, 16) := by kernel_rfl
theorem und_prs : Tryz.prog.underlying 31 = some (.slice 43) := by kernel_rfl
abbrev OPr (B : Nat) (w : World) (v : Value) (l : List (Nat × Nat)) : Prop := w.ownsRow B 43 2 v l.length (l.flatMap pr2)
theorem opr_nil (B : Nat) (w : World) : w.ownsRow B 43 2 (.slice none 0 0) 0 [] := World.ownsRow_nil _ _ _ _
theorem prs_take {n k : Nat} {p : Nat × Nat} (h : (prs n)[k]? = some p) : (prs n).take (k + 1) = (prs n).take k ++ [p] := by
 have hlt := get_lt h
 rw [List.take_succ_eq_append_getElem hlt]
 rw [List.getElem?_eq_getElem hlt] at h
 rw [Option.some.inj h]
theorem prs_len8 {n : Nat} (h : n < 9) : (prs n).length ≤ 28 := by
 have hn : n = 0 ∨ n = 1 ∨ n = 2 ∨ n = 3 ∨ n = 4 ∨ n = 5 ∨ n = 6 ∨ n = 7 ∨ n = 8 := by omega
 rcases hn with rfl | rfl | rfl | rfl | rfl | rfl | rfl | rfl | rfl <;> decide
theorem own_keeps {B : Nat} {w w' : World} {e : TypeId} {sz n : Nat} {v : Value} {xs : List Value} (h : w.ownsRow B e sz v n xs) (hg : w.grownBy w' v.ownBlock) : KeepsOthers w w' := by
 refine KeepsOthers.of_grownBy hg fun j o e hj => ?_
 rcases h.2 with ⟨h5, _⟩ | ⟨g, cap', cur, hv, hb, h3, _⟩
 ·rw [h5] at e; cases e
 ·rw [hv] at e
  simp [Value.ownBlock] at e
  subst e
  rw [h3] at hj
  cases hj
  rfl
theorem own_rowG {B B' : Nat} {β : Type} (e : TypeId) (sz : Nat) (v : β → Value) (n : β → Nat) (xs : β → List Value) : OwnFrom B (fun k W => W.ownsRow B' e sz (v k) (n k) (xs k)) := by
 intro s W W' row h hg hr
 refine ⟨h.1, ?_⟩
 rcases h.2 with h2 | ⟨g, cap, cur, h1, h2, h3, h4⟩
 ·exact .inl h2
 ·refine .inr ⟨g, cap, cur, h1, h2, (hg.block g (blk_lt h3) fun e => ?_).trans h3, h4⟩
  obtain ⟨_, o, ho, hc⟩ := hr g e.symm
  rw [h3] at ho
  cases ho
  cases hc
theorem own_set_other {B : Nat} {w : World} {e : TypeId} {sz n : Nat} {v : Value} {xs : List Value} (h : w.ownsRow B e sz v n xs) {b : Nat} (hb : b < B) (off : Nat) (x : Value) : (w.setCell ⟨b, off, none⟩ x).ownsRow B e sz v n xs := by
 refine ⟨h.1, ?_⟩
 rcases h.2 with h2 | ⟨g, cap, cur, h1, h2, h3, h4⟩
 ·exact .inl h2
 ·exact .inr ⟨g, cap, cur, h1, h2, blk_set_other h3 (by omega) off x, h4⟩
theorem wpListIn_app2 {F : Fence} {n : Nat} {w : World} {ops : Array Oper} {rest : List Oper} {o : Oper} {a : Act} {Q : Exit → Act → World → Prop}
  (hg : o.guard = none) (s x : Operand) (hop : o.op = Op.call { callee := Callee.builtin Builtin.append, args := #[s, x], argTypes := #[31, 31] })
  (B : Nat) (v : Value) (l : List (Nat × Nat)) (hs : a.eval s = v) (A : Option Addr) (m c : Nat) (l2 : List (Nat × Nat)) (hx : a.eval x = .slice A m c)
  (hown : OPr B w v l) (hm : l2.length = m) (hr : Rd w 2 A m (l2.flatMap pr2)) (hb : l.length + m ≤ 1000) (hB : B ≤ w.heap.size)
  (hK : ∀ v' w', OPr B w' v' (l ++ l2) → Below B w w' → KeepsOthers w w' → wpListIn F n Tryz.prog ops Q rest (a.put o.dst v') w') : wpListIn F n Tryz.prog ops Q (o :: rest) a w := by
 subst hm
 refine wpListIn_plain hg fun K hK' => ?_
 obtain ⟨i, hi, hz, hsz, hby⟩ := info_parts infoR
 obtain ⟨v', w', hrun, r1, r2, _⟩ := run_append_rd (P := Tryz.prog) w B 31 o.type 43 i _ 2 16 und_prs hi hz hsz hby rfl (by decide) v l.length (l.flatMap pr2) hown A l2.length c (l2.flatMap pr2) hr (fm_one pr2 pr2_one l2) (by simp [maxLen]; omega) (by omega) hB
 unfold Oper.wpIn
 refine ⟨?_, ?_⟩
 ·simp [Oper.about, hop, resolve, Target.leads, Sem.run_pure]
 ·rw [Oper.semAt_plain F _ _ (by rw [hop]; intro c hc'; cases hc')]
  simp [execOp, hop, resolve, invoke, builtin, hs, hx, hrun, Result.andThen]
  refine hK' _ _ (hK v' w' ?_ (own_grown hown r2 hB) (own_keeps hown r2))
  unfold OPr
  rw [List.length_append, List.flatMap_append]; exact r1
set_option maxRecDepth 100000 in
set_option maxHeartbeats 8000000 in
theorem apairs_calls (n : Int) (w : World) : Calls Tryz.prog 11 #[.int .i64 n] w fun e w' =>
  ∃ v, e = .returned (.tuple #[v, .int .i64 (prE n)]) ∧ Below w.heap.size w w' ∧ (prE n ≠ 0 → v = .slice none 0 0) ∧ (prE n = 0 → OPr w.heap.size w' v (prs n.toNat)) := by
 have hc : n < 0 ∨ 8 < n ∨ (0 ≤ n ∧ n ≤ 8) := by omega
 rcases hc with h | h | ⟨h, h1⟩
 ·have HE : Hid (prE n = 2) := Lib.hid (by unfold prE; rw [if_pos (by omega)])
  generalize prE n = pe at *
  have d1 : decide (n < 0) = true := decide_eq_true h
  clear h
  refine (callsIn_wide (n := 0)).1 ?_
  refine callsIn_of_wp_marks Tryz.func11 rfl trivial ?_ rfl
  simp only [Tryz.ntmps11, List.size_toArray, List.length_cons, List.length_nil, Nat.reduceAdd, Nat.reduceSub, Array.replicate_succ, Array.replicate_zero, List.push_toArray, List.append_toArray, List.nil_append, List.cons_append]
  refine wpIn_wide.2 ?_
  go_wp2_with fail
  exact ⟨.tuple #[.slice none 0 0, .int .i64 2], by simp [results, Tryz.results11, go_sem], ⟨_, by rw [HE.out], Below.refl _ _, fun _ => rfl, fun h => absurd (HE.out.symm.trans h) (by decide)⟩⟩
 ·have HE : Hid (prE n = 2) := Lib.hid (by unfold prE; rw [if_pos (by omega)])
  generalize prE n = pe at *
  have d1 : decide (n < 0) = false := decide_eq_false (by omega)
  have d2 : decide ((8 : Int) < n) = true := decide_eq_true h
  clear h
  refine (callsIn_wide (n := 0)).1 ?_
  refine callsIn_of_wp_marks Tryz.func11 rfl trivial ?_ rfl
  simp only [Tryz.ntmps11, List.size_toArray, List.length_cons, List.length_nil, Nat.reduceAdd, Nat.reduceSub, Array.replicate_succ, Array.replicate_zero, List.push_toArray, List.append_toArray, List.nil_append, List.cons_append]
  refine wpIn_wide.2 ?_
  go_wp2_with fail
  exact ⟨.tuple #[.slice none 0 0, .int .i64 2], by simp [results, Tryz.results11, go_sem], ⟨_, by rw [HE.out], Below.refl _ _, fun _ => rfl, fun h => absurd (HE.out.symm.trans h) (by decide)⟩⟩
 obtain ⟨m, rfl⟩ := Int.eq_ofNat_of_zero_le h
 have h9 : m < 9 := by omega
 have HE : Hid (prE (m : Int) = 0) := Lib.hid (by unfold prE; rw [if_neg (by omega)])
 generalize prE (m : Int) = pe at *
 have d1 : decide ((m : Int) < 0) = false := decide_eq_false (by omega)
 have d2 : decide ((8 : Int) < (m : Int)) = false := decide_eq_false (by omega)
 have d3 : (8 < m) = False := by simp; omega
 have L28 := Lib.hid (prs_len8 h9)
 simp only [Int.toNat_natCast]
 clear h h1
 refine (callsIn_wide (n := 0)).1 ?_
 refine callsIn_of_wp_marks Tryz.func11 rfl trivial ?_ rfl
 simp only [Tryz.ntmps11, List.size_toArray, List.length_cons, List.length_nil, Nat.reduceAdd, Nat.reduceSub, Array.replicate_succ, Array.replicate_zero, List.push_toArray, List.append_toArray, List.nil_append, List.cons_append]
 refine wpIn_wide.2 ?_
 go_wp2_with fail
 refine (pairs_calls _ _).mono ?_
 rintro e w9 ⟨rfl, rfl⟩
 go_wp2_with fail
 clear d1 d2 d3
 have NN : Hid (Below w.heap.size w ((w.alloc (.cells #[.slice none 0 0] 31)).alloc (.cells #[.int .i64 (m : Int)] 3))) := Lib.hid (Bal (Bal (Below.refl _ _) _) _)
 have SZ : Hid (((w.alloc (.cells #[.slice none 0 0] 31)).alloc (.cells #[.int .i64 (m : Int)] 3)).heap.size = w.heap.size + 2) := Lib.hid (by simp)
 have V4 : Hid (((w.alloc (.cells #[.slice none 0 0] 31)).alloc (.cells #[.int .i64 (m : Int)] 3)).heap[w.heap.size]? = some (.cells #[.slice none 0 0] 31)) := Lib.hid (blk_alloc (blk_new w _) _)
 have VT : Hid (((w.alloc (.cells #[.slice none 0 0] 31)).alloc (.cells #[.int .i64 (m : Int)] 3)).heap[w.heap.size + 1]? = some (.cells #[.int .i64 (m : Int)] 3)) := Lib.hid (blk_at _ (by simp))
 generalize ((w.alloc (.cells #[.slice none 0 0] 31)).alloc (.cells #[.int .i64 (m : Int)] 3)) = W0 at *
 refine wpIn_wide.1 (range_k 66 #[.pointer (some ⟨w.heap.size + 1, 0, none⟩)] rfl (enters_of Tryz.func66 (by kernel_rfl) rfl) (encP m) w.heap.size (prs m).length (fun W => W.heap[w.heap.size + 1]? = some (.cells #[.int .i64 (m : Int)] 3))
  (pairs_seq h9 (by have := SZ.out; omega)) (by have := SZ.out; omega) (fun _ => rfl)
  (fun k W => (∃ A9 c9, W.heap[w.heap.size]? = some (.cells #[.slice A9 k c9] 31) ∧ OPr W0.heap.size W (.slice A9 k c9) ((prs m).take k)) ∧ (W.heap[w.heap.size + 1]? = some (.cells #[.int .i64 (m : Int)] 3)) ∧ (Below w.heap.size w W) ∧ (w.heap.size + 2 ≤ W.heap.size)) (fun cd k W => False) (fun k a' W => ∃ Bx : Nat, (a' = { tmps := #[.int .i64 (m : Int), undef, .slice none 0 0, .int .i64 0, .pointer (some ⟨w.heap.size, 0, none⟩), .pointer (some ⟨Bx, 0, none⟩), .int .i64 (m : Int), .bool false, .bool false, .int .i64 (m : Int), .bool false, .bool false, .int .i64 (m : Int), .func (.func 66) #[] #[.pointer (some ⟨w.heap.size + 1, 0, none⟩)], .agg #[.int .i64 ((prAt m k).1 : Int), .int .i64 ((prAt m k).2 : Int)], undef, undef, undef, undef, undef], defers := [] }) ∧ (w.heap.size + 2 ≤ Bx) ∧ (W.heap[Bx]? = some (.cells #[.int .i64 ((prAt m k).1 : Int), .int .i64 ((prAt m k).2 : Int)] 43)) ∧ (∃ A9 c9, W.heap[w.heap.size]? = some (.cells #[.slice A9 k c9] 31) ∧ OPr W0.heap.size W (.slice A9 k c9) ((prs m).take k)) ∧ (W.heap[w.heap.size + 1]? = some (.cells #[.int .i64 (m : Int)] 3)) ∧ (Below w.heap.size w W) ∧ (w.heap.size + 2 ≤ W.heap.size))
  ((own_ex fun _ => own_ex fun _ => (own_blk _ _ _).and (own_rowG _ _ _ _ _)).and ((own_blk _ _ _).and ((ownFrom_below (Nat.le_refl _) (by have := SZ.out; omega)).and (own_size _)))) (fun _ => (own_pure _)) (fun _ => own_ex fun _ => ((own_pure _).and ((own_pure _).and ((own_blk _ _ _).and ((own_ex fun _ => own_ex fun _ => (own_blk _ _ _).and (own_rowG _ _ _ _ _)).and ((own_blk _ _ _).and ((ownFrom_below (Nat.le_refl _) (by have := SZ.out; omega)).and (own_size _))))))))
  (fun k W h => h.2.1) ⟨⟨none, 0, V4.out, opr_nil _ _⟩, VT.out, NN.out, by have := SZ.out; omega⟩ ?assign ?body ?done ?stop)
 case assign =>
  rintro lp k W K ⟨⟨A9, c9, v4, o9⟩, vt, nn, sz⟩ hlt hK
  gi_wp2
  exact hK _ _ (keeps_of_below (Bal (Below.refl _ _) _)) ((Below.refl _ W).alloc nn.size _) ⟨W.heap.size, rfl, sz, blk_new W _, ⟨A9, c9, blk_alloc v4 _, World.ownsRow.alloc o9 _⟩, blk_alloc vt _, Bal nn _, by rw [World.size_alloc]; omega⟩
 case body =>
  rintro lp k a' W ⟨Bx, rfl, lx, vx, ⟨A9, c9, v4, o9⟩, vt, nn, sz⟩ hlt
  have hp : (prs m)[k]? = some (prAt m k) := by unfold prAt; rw [List.getD_eq_getElem?_getD, List.getElem?_eq_getElem hlt]; rfl
  have PT := Lib.hid (prs_take hp)
  have hlen : ((prs m).take k).length = k := by rw [List.length_take]; omega
  have h28 := L28.out
  have hz := SZ.out
  generalize prAt m k = p at *
  have O9 := Lib.hid o9
  have V4 := Lib.hid v4
  have VT := Lib.hid vt
  have NN := Lib.hid nn
  have nn0 := Lib.hid nn
  have LX := Lib.hid lx
  have SW : Hid (W0.heap.size ≤ W.heap.size) := Lib.hid (by omega)
  have c40 := blk_cell V4.out 0 _ rfl
  have f40 := blk_frozen V4.out 0
  have l40 := blk_lt V4.out
  have cx0 := blk_cell vx 0 _ rfl
  have cx1 := blk_cell vx 1 _ rfl
  have lx1 := blk_lt vx
  have HLEN := Lib.hid hlen
  clear o9 v4 vt nn lx hp vx hlen hz
  gi_wp2_with (gi_at_builtin; refine wpListIn_app2 rfl _ _ rfl W0.heap.size _ ((prs m).take k) rfl (some ⟨W.heap.size, 0, none⟩) 1 1 [p] rfl (World.ownsRow.alloc O9.out _) rfl (Rd.blk (T := 43) (blk_new W _) rfl) ?_ ?_ ?_; (have := HLEN.out; omega); (rw [World.size_alloc]; have := SW.out; omega); intro v1 w1 o1 q1 k1; obtain ⟨A1, c1, hv1, -, -, -⟩ := Rd.of_own o1; rw [show ((prs m).take k ++ [p]).length = k + 1 by rw [List.length_append, HLEN.out]; rfl] at hv1; subst hv1; have B1 := Lib.hid (((Below.refl W0.heap.size W).alloc SW.out _).trans q1); have O1 := Lib.hid o1; have K1 := Lib.hid (((KeepsOthers.alloc W _).trans k1).from W0.heap.size); have V41 := Lib.hid (blk_B B1.out V4.out (by have := SZ.out; omega)); have c9a := blk_cell V41.out 0 _ rfl; have f9a := blk_frozen V41.out 0; have l9a := blk_lt V41.out; clear o1 q1 k1)
  clear c9a f9a l9a c40 f40 l40 cx0 cx1 lx1
  replace V4 := Lib.hid (blk_set V41.out 0 (.slice A1 (k + 1) c1))
  replace VT := Lib.hid (blk_set_other (b' := w.heap.size) (blk_B B1.out VT.out (by have := SZ.out; omega)) (by omega) 0 (.slice A1 (k + 1) c1))
  replace NN := Lib.hid (Bset1 (NN.out.trans (B1.out.mono (by have := SZ.out; omega))) (Nat.le_refl _) 0 (.slice A1 (k + 1) c1))
  replace O1 := Lib.hid (own_set_other O1.out (show w.heap.size < W0.heap.size by have := SZ.out; omega) 0 (.slice A1 (k + 1) c1))
  replace K1 := Lib.hid (keep_set K1.out w.heap.size 0 (.slice A1 (k + 1) c1))
  refine ⟨K1.out, below_mid nn0.out NN.out K1.out.size, ⟨A1, c1, V4.out, by unfold OPr; rw [PT.out]; exact O1.out⟩, VT.out, NN.out, by have := K1.out.size; have := SW.out; have := SZ.out; omega⟩
 case done =>
  rintro D W hD ⟨⟨A9, c9, v4, o9⟩, vt, nn, sz⟩ hK
  have hz := SZ.out
  have O9 := Lib.hid o9
  have V4 := Lib.hid v4
  have NN := Lib.hid nn
  have HK := Lib.hid hK
  clear o9 v4 vt nn hK
  rw [List.take_length] at O9
  have c40 := blk_cell V4.out 0 _ rfl
  have l40 := blk_lt V4.out
  go_wp2_with fail
  refine ⟨by simp, .inl ⟨_, _, rfl, run_takeDeferred HK.out, ?_⟩⟩
  exact ⟨.tuple #[.slice A9 (prs m).length c9, .int .i64 0], by simp [results, Tryz.results11, go_sem], ⟨_, by rw [HE.out], put_below NN.out (by omega) (Nat.le_refl _) HK.out, fun h => absurd HE.out h, fun _ => ownsRow_putObj (own_mono O9.out (by omega)) _ HK.out rfl⟩⟩
 case stop =>
  rintro D cd k W hD hlt h hK
  exact h.elim
end Go.Proofs.YtfangplfbbgphaaGreatDoor
namespace Go.Proofs.YtfangplfbbgphaaGreatDoor
open Go.ChangeShapes Go.WideShapes Go.ChangeAt Go.RowKit
set_option linter.unusedVariables false
set_option maxRecDepth 100000
set_option linter.unusedSimpArgs false
abbrev Cl : Type := V6 × List (Nat × Nat)
def hitC (v b : V6) (c : Cl) : Bool := decide (c.1 = v) || decide (c.1 = b)
def putC (p : Nat × Nat) (v b : V6) : List Cl → List Cl
 | [] => [(v, [p])]
 | c :: cs => if hitC v b c then (c.1, c.2 ++ [p]) :: cs else c :: putC p v b cs
theorem putC_none {p : Nat × Nat} {v b : V6} : ∀ {cs : List Cl}, (∀ (j : Nat) (c : Cl), cs[j]? = some c → hitC v b c = false) → putC p v b cs = cs ++ [(v, [p])]
 | [], _ => rfl
 | c :: cs, h => by
  unfold putC
  rw [if_neg (by rw [h 0 c rfl]; simp), putC_none (fun j c' hj => h (j + 1) c' (by simpa using hj))]
  rfl
theorem putC_hit {p : Nat × Nat} {v b : V6} : ∀ {cs : List Cl} {k : Nat} {c : Cl}, cs[k]? = some c → (∀ (j : Nat) (c' : Cl), j < k → cs[j]? = some c' → hitC v b c' = false) → hitC v b c = true → putC p v b cs = cs.set k (c.1, c.2 ++ [p])
 | [], k, c, hk, _, _ => by simp at hk
 | c0 :: cs, 0, c, hk, _, hh => by
  simp at hk
  subst hk
  unfold putC
  rw [if_pos hh]; rfl
 | c0 :: cs, k + 1, c, hk, hn, hh => by
  unfold putC
  rw [if_neg (by rw [hn 0 c0 (by omega) rfl]; simp), putC_hit (cs := cs) (k := k) (by simpa using hk) (fun j c' hj hc => hn (j + 1) c' (by omega) (by simpa using hc)) hh]
  rfl
theorem putC_len {p : Nat × Nat} {v b : V6} : ∀ {cs : List Cl}, (putC p v b cs).length ≤ cs.length + 1
 | [] => by simp [putC]
 | c :: cs => by
  unfold putC
  split
  ·simp
  ·have := putC_len (p := p) (v := v) (b := b) (cs := cs); simp only [List.length_cons]; omega
theorem putC_size {p : Nat × Nat} {v b : V6} {m : Nat} : ∀ {cs : List Cl}, (∀ c ∈ cs, c.2.length ≤ m) → ∀ c ∈ putC p v b cs, c.2.length ≤ m + 1
 | [], _, c, hc => by simp [putC] at hc; subst hc; simp
 | c0 :: cs, h, c, hc => by
  unfold putC at hc
  split at hc
  ·rcases List.mem_cons.1 hc with rfl | hc
   ·have := h c0 (List.mem_cons_self ..); simp; omega
   ·have := h c (List.mem_cons_of_mem _ hc); omega
  ·rcases List.mem_cons.1 hc with rfl | hc
   ·have := h c (List.mem_cons_self ..); omega
   ·exact putC_size (fun c hc => h c (List.mem_cons_of_mem _ hc)) c hc
def cl7 (p : V6 × Value) : List Value := [.int .i64 p.1.x1, .int .i64 p.1.x2, .int .i64 p.1.y1, .int .i64 p.1.y2, .int .i64 p.1.z1, .int .i64 p.1.z2, p.2]
theorem cl7_len (p : V6 × Value) : (cl7 p).length = 7 := rfl
def hdC (cs : List Cl) (hs : List Value) : List (V6 × Value) := (cs.map (·.1)).zip hs
theorem hdC_len {cs : List Cl} {hs : List Value} (h : hs.length = cs.length) : (hdC cs hs).length = cs.length := by simp [hdC, h]
theorem hdC_get {cs : List Cl} {hs : List Value} {k : Nat} {c : Cl} {u : Value} (hc : cs[k]? = some c) (hu : hs[k]? = some u) : (hdC cs hs)[k]? = some (c.1, u) := by
 unfold hdC
 rw [List.getElem?_zip_eq_some]
 exact ⟨by rw [List.getElem?_map, hc]; rfl, hu⟩
theorem hdC_set {cs : List Cl} {hs : List Value} {k : Nat} {c : Cl} {u : Value} (hl : hs.length = cs.length) (hc : cs[k]? = some c) (q : List (Nat × Nat)) : (hdC cs hs).set k (c.1, u) = hdC (cs.set k (c.1, q)) (hs.set k u) := by
 have hlt := get_lt hc
 apply List.ext_getElem?
 intro i
 by_cases e : k = i
 ·subst e
  rw [List.getElem?_set_self (by rw [hdC_len hl]; exact hlt), hdC_get (c := (c.1, q)) (by rw [List.getElem?_set_self hlt]) (by rw [List.getElem?_set_self (by omega)])]
 ·rw [List.getElem?_set_ne e]
  unfold hdC List.zip
  rw [List.getElem?_zipWith, List.getElem?_zipWith, List.getElem?_map, List.getElem?_map, List.getElem?_set_ne e, List.getElem?_set_ne e]
theorem own_block_lt {B : Nat} {W : World} {e : TypeId} {sz n : Nat} {v : Value} {xs : List Value} (h : W.ownsRow B e sz v n xs) {g : Nat} (hb : v.ownBlock = some g) : g < W.heap.size ∧ B ≤ g ∧ ∃ cs, W.heap[g]? = some (.cells cs e) := by
 rcases h.2 with ⟨h5, _⟩ | ⟨g', cap, cur, h1, h2, h3, h4⟩
 ·rw [h5] at hb; cases hb
 ·rw [h1] at hb
  simp [Value.ownBlock] at hb
  subst hb
  exact ⟨blk_lt h3, h2, _, h3⟩
end Go.Proofs.YtfangplfbbgphaaGreatDoor
namespace Go.Proofs.YtfangplfbbgphaaGreatDoor
open Go.ChangeShapes Go.WideShapes Go.ChangeAt Go.RowKit
set_option linter.unusedVariables false
set_option maxRecDepth 100000
set_option linter.unusedSimpArgs false
theorem fm_setj {α : Type} (f : α → List Value) (sz : Nat) (hf : ∀ x, (f x).length = sz) : ∀ (l : List α) (k j : Nat) (x y : α) (u : Value), l[k]? = some x → j < sz → f y = (f x).set j u → (l.flatMap f).set (k * sz + j) u = (l.set k y).flatMap f
 | [], k, j, x, y, u, hk, _, _ => by simp at hk
 | x0 :: l, 0, j, x, y, u, hk, hj, hy => by
  simp at hk
  subst hk
  rw [List.flatMap_cons, List.set_cons_zero, List.flatMap_cons, Nat.zero_mul, Nat.zero_add, List.set_append_left _ _ (by rw [hf]; exact hj), hy]
 | x0 :: l, k + 1, j, x, y, u, hk, hj, hy => by
  rw [List.flatMap_cons, List.set_cons_succ, List.flatMap_cons, List.set_append_right _ _ (by rw [hf, Nat.succ_mul]; omega), hf, show (k + 1) * sz + j - sz = k * sz + j by rw [Nat.succ_mul]; omega, fm_setj f sz hf l k j x y u (by simpa using hk) hj hy]
theorem own_ne2 {W : World} {base base' : Nat} {e e' : TypeId} {size size' n n' : Nat} {v v' : Value} {xs xs' : List Value} (h : W.ownsRow base e size v n xs) (h' : W.ownsRow base' e' size' v' n' xs') (hne : e ≠ e') : v'.ownBlock = none ∨ v'.ownBlock ≠ v.ownBlock := by
 cases hq : v'.ownBlock with
 | none => exact .inl rfl
 | some g =>
  refine .inr fun hh => ?_
  obtain ⟨_, _, cs, h1⟩ := own_block_lt h' hq
  obtain ⟨_, _, cs', h2⟩ := own_block_lt h hh.symm
  rw [h1] at h2
  injection h2 with h2
  injection h2 with _ ht
  exact hne ht.symm
theorem ap_one {α : Type} {l : List α} {x y : α} {i : Nat} (h : (l ++ [x])[i]? = some y) : l[i]? = some y ∨ (i = l.length ∧ y = x) := by
 rcases Nat.lt_trichotomy i l.length with h1 | h1 | h1
 ·exact .inl (by rw [List.getElem?_append_left h1] at h; exact h)
 ·subst h1; simp at h; exact .inr ⟨rfl, h.symm⟩
 ·rw [List.getElem?_eq_none (by simp; omega)] at h; cases h
structure OC (B : Nat) (W : World) (v : Value) (cs : List Cl) (hs : List Value) : Prop where
 len : hs.length = cs.length
 row : W.ownsRow B 40 7 v cs.length ((hdC cs hs).flatMap cl7)
 inn : ∀ (k : Nat) (c : Cl) (u : Value), cs[k]? = some c → hs[k]? = some u → OPr B W u c.2
 sep : ∀ (i j : Nat) (u u' : Value), hs[i]? = some u → hs[j]? = some u' → i ≠ j → u.ownBlock = none ∨ u.ownBlock ≠ u'.ownBlock
structure OC1 (B : Nat) (W : World) (v : Value) (cs : List Cl) (hs : List Value) (k : Nat) (u' : Value) (q : List (Nat × Nat)) : Prop where
 len : hs.length = cs.length
 row : W.ownsRow B 40 7 v cs.length ((hdC cs hs).flatMap cl7)
 inn : ∀ (j : Nat) (c : Cl) (u : Value), j ≠ k → cs[j]? = some c → hs[j]? = some u → OPr B W u c.2
 new : OPr B W u' q
 sep : ∀ (i j : Nat) (x x' : Value), (hs.set k u')[i]? = some x → (hs.set k u')[j]? = some x' → i ≠ j → x.ownBlock = none ∨ x.ownBlock ≠ x'.ownBlock
theorem neCP : (40 : TypeId) ≠ 43 := by decide
theorem nePC : (43 : TypeId) ≠ 40 := by decide
theorem OC.nil (B : Nat) (W : World) : OC B W (.slice none 0 0) [] [] := ⟨rfl, World.ownsRow_nil _ _ _ _, fun k c u h => by simp at h, fun i j u u' h => by simp at h⟩
theorem OC.next {B : Nat} {W W' : World} {v : Value} {cs : List Cl} {hs : List Value} (h : OC B W v cs hs) (hb : Below W.heap.size W W') : OC B W' v cs hs :=
 ⟨h.len, own_next hb h.row, fun k c u hc hu => own_next hb (h.inn k c u hc hu), h.sep⟩
theorem OC1.next {B : Nat} {W W' : World} {v u' : Value} {cs : List Cl} {hs : List Value} {k : Nat} {q : List (Nat × Nat)} (h : OC1 B W v cs hs k u' q) (hb : Below W.heap.size W W') : OC1 B W' v cs hs k u' q :=
 ⟨h.len, own_next hb h.row, fun j c u hj hc hu => own_next hb (h.inn j c u hj hc hu), own_next hb h.new, h.sep⟩
theorem OC.low {B : Nat} {W : World} {v : Value} {cs : List Cl} {hs : List Value} (h : OC B W v cs hs) {b : Nat} (hb : b < B) (off : Nat) (x : Value) : OC B (W.setCell ⟨b, off, none⟩ x) v cs hs :=
 ⟨h.len, own_set_other h.row hb off x, fun k c u hc hu => own_set_other (h.inn k c u hc hu) hb off x, h.sep⟩
theorem OC.grow {B : Nat} {W W' : World} {v u u' : Value} {cs : List Cl} {hs : List Value} {k : Nat} {c : Cl} {q : List (Nat × Nat)} (h : OC B W v cs hs) (hc : cs[k]? = some c) (hu : hs[k]? = some u)
  (hn : OPr B W' u' q) (hg : W.grownBy W' u.ownBlock) (ho : u'.ownBlock = u.ownBlock ∨ u'.ownBlock = some W.heap.size) : OC1 B W' v cs hs k u' q := by
 have hk := get_lt hu
 refine ⟨h.len, h.row.kept hg (own_ne2 (h.inn k c u hc hu) h.row nePC), fun j c' x hj hc' hx => (h.inn j c' x hc' hx).kept hg (h.sep j k x u hx hu hj), hn, fun i j x x' hx hx' hij => ?_⟩
 have old : ∀ {i : Nat} {x : Value}, hs[i]? = some x → ∀ g, x.ownBlock = some g → g < W.heap.size := fun {i x} h1 g hg' => by
  obtain ⟨c1, hc1⟩ := (⟨_, List.getElem?_eq_getElem (show i < cs.length by have := get_lt h1; rw [h.len] at this; exact this)⟩ : ∃ c1, cs[i]? = some c1)
  exact ((h.inn i c1 x hc1 h1).lt g hg').2
 have far : ∀ {j : Nat} {y : Value}, hs[j]? = some y → j ≠ k → y.ownBlock = none ∨ y.ownBlock ≠ u'.ownBlock := fun {j y} hy hj => by
  rcases ho with e | e
  ·rw [e]; exact h.sep j k y u hy hu hj
  ·cases hq : y.ownBlock with
   | none => exact .inl rfl
   | some g =>
    refine .inr fun hh => ?_
    have := old hy g hq
    rw [e] at hh
    injection hh with hh
    omega
 by_cases e1 : i = k
 ·subst e1
  rw [List.getElem?_set_self hk] at hx
  injection hx with hx
  subst hx
  rw [List.getElem?_set_ne hij] at hx'
  rcases far hx' (fun e => hij e.symm) with h1 | h1
  ·cases hq : u'.ownBlock with
   | none => exact .inl rfl
   | some g => exact .inr (by rw [h1]; simp)
  ·exact .inr (fun e => h1 e.symm)
 ·rw [List.getElem?_set_ne (fun e => e1 e.symm)] at hx
  by_cases e2 : j = k
  ·subst e2
   rw [List.getElem?_set_self hk] at hx'
   injection hx' with hx'
   subst hx'
   exact far hx e1
  ·rw [List.getElem?_set_ne (fun e => e2 e.symm)] at hx'
   exact h.sep i j x x' hx hx' hij
theorem OC1.store {B : Nat} {W : World} {g n cap : Nat} {u' : Value} {cs : List Cl} {hs : List Value} {k : Nat} {c : Cl} {q : List (Nat × Nat)} (h : OC1 B W (.slice (some ⟨g, 0, none⟩) n cap) cs hs k u' q) (hc : cs[k]? = some c) :
  OC B (W.setCell ⟨g, k * 7 + 6, none⟩ u') (.slice (some ⟨g, 0, none⟩) n cap) (cs.set k (c.1, q)) (hs.set k u') ∧ W.grownBy (W.setCell ⟨g, k * 7 + 6, none⟩ u') (some g) := by
 have hk := get_lt hc
 have hn : n = cs.length := by
  obtain ⟨A0, c0, e, _⟩ := Rd.of_own h.row
  injection e
 subst hn
 obtain ⟨u, hu⟩ := (⟨_, List.getElem?_eq_getElem (show k < hs.length by rw [h.len]; exact hk)⟩ : ∃ u, hs[k]? = some u)
 obtain ⟨h1, h2⟩ := h.row.stored (k * 7 + 6) u'
 have keep : ∀ {x : Value} {l : List (Nat × Nat)}, OPr B W x l → OPr B (W.setCell ⟨g, k * 7 + 6, none⟩ u') x l := fun {x l} hx => hx.kept h2 (own_ne2 h.row hx neCP)
 refine ⟨⟨by simpa using h.len, ?_, fun j c' x hc' hx => ?_, h.sep⟩, h2⟩
 ·rw [List.length_set, ← hdC_set h.len hc q]
  rw [fm_setj cl7 7 cl7_len (hdC cs hs) k 6 (c.1, u) (c.1, u') u' (hdC_get hc hu) (by omega) rfl] at h1
  exact h1
 ·by_cases e : k = j
  ·subst e
   rw [List.getElem?_set_self hk] at hc'
   rw [List.getElem?_set_self (by rw [h.len]; exact hk)] at hx
   injection hc' with hc'
   injection hx with hx
   subst hc' hx
   exact keep h.new
  ·rw [List.getElem?_set_ne e] at hc' hx
   exact keep (h.inn j c' x (fun e' => e e'.symm) hc' hx)
theorem hdC_push {cs : List Cl} {hs : List Value} (h : hs.length = cs.length) (c : Cl) (u : Value) : hdC (cs ++ [c]) (hs ++ [u]) = hdC cs hs ++ [(c.1, u)] := by
 unfold hdC
 rw [List.map_append, List.zip_append (by rw [List.length_map, h])]
 rfl
theorem OC.lo {B : Nat} {W : World} {v : Value} {cs : List Cl} {hs : List Value} (h : OC B W v cs hs) : ∀ (i : Nat) (x : Value) (g : Nat), hs[i]? = some x → x.ownBlock = some g → g < W.heap.size := fun i x g h1 hg' => by
 obtain ⟨c1, hc1⟩ := (⟨_, List.getElem?_eq_getElem (show i < cs.length by have := get_lt h1; rw [h.len] at this; exact this)⟩ : ∃ c1, cs[i]? = some c1)
 exact ((h.inn i c1 x hc1 h1).lt g hg').2
theorem OC.push {B n0 : Nat} {W W' : World} {v v' u : Value} {cs : List Cl} {hs : List Value} {c : V6} {l : List (Nat × Nat)} (h : OC B W v cs hs) (hlo : ∀ (i : Nat) (x : Value) (g : Nat), hs[i]? = some x → x.ownBlock = some g → g < n0) (hu : OPr n0 W u l) (hB : B ≤ n0)
  (hown : W'.ownsRow B 40 7 v' (cs.length + 1) ((hdC cs hs).flatMap cl7 ++ cl7 (c, u))) (hg : W.grownBy W' v.ownBlock) : OC B W' v' (cs ++ [(c, l)]) (hs ++ [u]) := by
 have keep : ∀ {base : Nat} {x : Value} {k : List (Nat × Nat)}, OPr base W x k → OPr base W' x k := fun hx => hx.kept hg (own_ne2 h.row hx neCP)
 have new : ∀ g, u.ownBlock = some g → n0 ≤ g := fun g hg' => (hu.lt g hg').1
 refine ⟨by simp [h.len], ?_, fun i c' x hc' hx => ?_, fun i j x x' hx hx' hij => ?_⟩
 ·rw [hdC_push h.len, List.flatMap_append, List.length_append]
  simpa using hown
 ·rcases ap_one hc' with h1 | ⟨h1, rfl⟩
  ·rcases ap_one hx with h2 | ⟨h2, rfl⟩
   ·exact keep (h.inn i c' x h1 h2)
   ·have := get_lt h1; rw [h.len] at h2; omega
  ·rcases ap_one hx with h2 | ⟨h2, rfl⟩
   ·have := get_lt h2; rw [h.len] at this; omega
   ·exact own_mono (keep hu) hB
 ·rcases ap_one hx with h1 | ⟨h1, rfl⟩
  ·rcases ap_one hx' with h2 | ⟨h2, rfl⟩
   ·exact h.sep i j x x' h1 h2 hij
   ·cases e : x.ownBlock with
    | none => exact .inl rfl
    | some g =>
     refine .inr fun e' => ?_
     have := hlo i x g h1 e
     have := new g e'.symm
     omega
  ·rcases ap_one hx' with h2 | ⟨h2, rfl⟩
   ·cases e : x.ownBlock with
    | none => exact .inl rfl
    | some g =>
     refine .inr fun e' => ?_
     have := hlo j x' g h2 e'.symm
     have := new g e
     omega
   ·omega
theorem OC1.cell {B : Nat} {W : World} {g n c0 : Nat} {cs : List Cl} {hs : List Value} {k : Nat} {u' : Value} {q : List (Nat × Nat)} {c : Cl} {u : Value} (h : OC1 B W (.slice (some ⟨g, 0, none⟩) n c0) cs hs k u' q) (hc : cs[k]? = some c) (hu : hs[k]? = some u) : W.cell? ⟨g, k * 7 + 6, none⟩ = some u ∧ g < W.heap.size := by
 have := h.row.cells (g := g) rfl (k * 7 + 6) u (by rw [fm_get cl7 7 cl7_len (hdC cs hs) k 6 (c.1, u) (hdC_get hc hu) (by omega)]; rfl)
 simp only [Addr.add, Nat.zero_add] at this
 exact ⟨this, (h.row.lt g rfl).2⟩
theorem cl7_one (A : Option Addr) (n c0 : Nat) (v : V6) : ∀ u ∈ cl7 (v, .slice A n c0), u.oneCell' = true := by
 intro u hu; simp [cl7] at hu; rcases hu with rfl | rfl | rfl | rfl | rfl | rfl | rfl <;> rfl
end Go.Proofs.YtfangplfbbgphaaGreatDoor
namespace Go.Proofs.YtfangplfbbgphaaGreatDoor
open Go.ChangeShapes Go.WideShapes Go.ChangeAt Go.RowKit Go.Deep Go.Joins
set_option linter.unusedVariables false
set_option maxRecDepth 100000
set_option linter.unusedSimpArgs false
theorem own_of_blk {W : World} {g base sz n : Nat} {e : TypeId} {xs : List Value} (h : W.heap[g]? = some (.cells xs.toArray e)) (hb : base ≤ g) (hl : xs.length = n * sz) (hn : n ≤ 1000) : W.ownsRow base e sz (.slice (some ⟨g, 0, none⟩) n n) n xs :=
 ⟨hl, .inr ⟨g, n, xs.toArray, rfl, hb, h, Nat.le_refl _, by simp [maxLen]; omega, by simpa using hl, by simp [List.take_of_length_le (Nat.le_of_eq hl)]⟩⟩
theorem rd_nil (W : World) (sz : Nat) (A : Option Addr) : Rd W sz A 0 [] := ⟨by simp, fun h => absurd h (by simp)⟩
instance : Inhabited St := ⟨zS⟩
section
variable {H : Type} {enc : TypeId × Value → H} {w : World} {base : Nat} {spare : Nat → Bool} {held : Bool}
end
end Go.Proofs.YtfangplfbbgphaaGreatDoor
