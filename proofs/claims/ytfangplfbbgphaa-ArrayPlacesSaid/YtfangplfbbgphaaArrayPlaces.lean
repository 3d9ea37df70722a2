/- For every input the law ArrayPlaces returns true and leaves its arguments as they were. -/
import Derived.Test.YtfangplfbbgphaaRows
import Derived.Test.YtfangplfbbgphaaAth
import Derived.OwnWalk
import Derived.Laws.OwnMore
import Derived.WalkKit
import Derived.ProofKit
import Derived.OpenShut
import Derived.ShutString
import Derived.ChangeOld
import Derived.Below
import Derived.Lib.SmallJoins
namespace Go.Proofs.Ytfangplfbbgphaa.arrayPlaces
open Go.ChangeShapes Go.WideShapes Go.ChangeAt Go.RowKit Go.Joins
open Go.ChangeMaps (open_string shut_string)
set_option linter.unusedVariables false

theorem own : ownKnob Try.prog.godebug = none := by kernel_rfl
theorem laidOut : laidOutB Try.prog = true := by kernel_rfl
attribute [local go_sem ↓] Go.wp_at_zero Go.wp_at_succ eqVe_self
set_option linter.unusedSimpArgs false
set_option maxRecDepth 100000
theorem nil_form {w : World} {sz : Nat} : ∃ (Ax : Option Addr) (cx : Nat), Value.slice none 0 0 = .slice Ax 0 cx ∧ 0 ≤ cx ∧ cx ≤ 9223372036854775807 ∧ Rd w sz Ax 0 [] := ⟨none, 0, rfl, by omega, by omega, rd_nil _ _ _⟩
theorem aplaces_u {A B : Int} {a : Option Addr} {c : Nat} {l : List St} {w : World} (hl : RSt w a l) (hc : l.length ≤ c) (hc' : c ≤ 9223372036854775807) (hn : ∀ x ∈ l, x.nm.size ≤ 9223372036854775807) : Calls Try.prog 5 #[Gv A B, .slice a l.length c] w fun e w' =>
    ∃ Ax cx, e = .returned (.tuple #[.slice Ax (plL A B l).length cx, .int .i64 (plE A B l)]) ∧ Below w.heap.size w w' ∧ (plL A B l).length ≤ cx ∧ cx ≤ 9223372036854775807 ∧ RVe w' Ax (plL A B l) := by
  refine (aplaces_calls hl hc hc' hn).mono ?_
  rintro e w' ⟨v, rfl, hb, h0, h1⟩
  by_cases he : plE A B l = 0
  · obtain ⟨g, rfl, hg, hr⟩ := h1 he
    have h8 := (stsE_ok (plE_ok he).2.1).1
    have e1 : plL A B l = l.map (plV A B) := by unfold plL; rw [if_pos he]
    rw [e1, List.length_map]
    exact ⟨_, _, rfl, hb, Nat.le_refl _, by omega, by show Rd w' 6 _ (l.map (plV A B)).length _; rw [List.length_map]; exact Rd.blk hr (by rw [fm_len _ _ v6_len, List.length_map])⟩
  · have e1 : plL A B l = [] := by unfold plL; rw [if_neg he]
    rw [h0 he, e1]
    exact ⟨none, 0, rfl, hb, Nat.le_refl _, by omega, rd_nil _ _ _⟩
theorem rplaces_u {A B : Int} {a : Option Addr} {c : Nat} {l : List St} {w : World} (hl : RSt w a l) (hc : l.length ≤ c) (hc' : c ≤ 9223372036854775807) (hn : ∀ x ∈ l, x.nm.size ≤ 9223372036854775807) : Calls Try.prog 6 #[Gv A B, .slice a l.length c] w fun e w' =>
    ∃ Ax cx, e = .returned (.tuple #[.slice Ax (plL A B l).length cx, .int .i64 (plE A B l)]) ∧ Below w.heap.size w w' ∧ (plL A B l).length ≤ cx ∧ cx ≤ 9223372036854775807 ∧ RVe w' Ax (plL A B l) := by
  refine (rplaces_calls hl hc hc' hn).mono ?_
  rintro e w' ⟨v, rfl, hb, h0, h1⟩
  by_cases he : plE A B l = 0
  · have e1 : plL A B l = l.map (plV A B) := by unfold plL; rw [if_pos he]
    rw [e1]
    obtain ⟨A1, c1, rfl, h2, h3, h4⟩ := Rd.of_own (h1 he)
    exact ⟨A1, c1, rfl, hb, h2, h3, h4⟩
  · have e1 : plL A B l = [] := by unfold plL; rw [if_neg he]
    rw [h0 he, e1]
    exact ⟨none, 0, rfl, hb, Nat.le_refl _, by omega, rd_nil _ _ _⟩
theorem apairs_u (n : Int) (w : World) : Calls Try.prog 9 #[.int .i64 n] w fun e w' =>
    ∃ Ax cx, e = .returned (.tuple #[.slice Ax (prL n).length cx, .int .i64 (prE n)]) ∧ Below w.heap.size w w' ∧ (prL n).length ≤ cx ∧ cx ≤ 9223372036854775807 ∧ RPr w' Ax (prL n) := by
  refine (apairs_calls n w).mono ?_
  rintro e w' ⟨v, rfl, hb, h0, h1⟩
  by_cases he : prE n = 0
  · have e1 : prL n = prs n.toNat := by unfold prL; rw [if_pos he]
    rw [e1]
    obtain ⟨A1, c1, rfl, h2, h3, h4⟩ := Rd.of_own (h1 he)
    exact ⟨A1, c1, rfl, hb, h2, h3, h4⟩
  · have e1 : prL n = [] := by unfold prL; rw [if_neg he]
    rw [h0 he, e1]
    exact ⟨none, 0, rfl, hb, Nat.le_refl _, by omega, rd_nil _ _ _⟩
theorem rpairs_u (n : Int) (w : World) : Calls Try.prog 10 #[.int .i64 n] w fun e w' =>
    ∃ Ax cx, e = .returned (.tuple #[.slice Ax (prL n).length cx, .int .i64 (prE n)]) ∧ Below w.heap.size w w' ∧ (prL n).length ≤ cx ∧ cx ≤ 9223372036854775807 ∧ RPr w' Ax (prL n) := by
  refine (rpairs_calls n w).mono ?_
  rintro e w' ⟨v, rfl, hb, h0, h1⟩
  by_cases he : prE n = 0
  · have e1 : prL n = prs n.toNat := by unfold prL; rw [if_pos he]
    rw [e1]
    obtain ⟨A1, c1, rfl, h2, h3, h4⟩ := Rd.of_own (h1 he)
    exact ⟨A1, c1, rfl, hb, h2, h3, h4⟩
  · have e1 : prL n = [] := by unfold prL; rw [if_neg he]
    rw [h0 he, e1]
    exact ⟨none, 0, rfl, hb, Nat.le_refl _, by omega, rd_nil _ _ _⟩
def orL (A B : Int) (l : List St) (q : List Int) : List St := if ordE A B l q = 0 then ordL l q else []
theorem ordE_len {A B : Int} {l : List St} {q : List Int} (h : ordE A B l q = 0) : (ordL l q).length = l.length ∧ l.length ≤ 8 := by
  unfold ordE at h
  split at h
  · omega
  · rename_i h1
    have h8 := (stsE_ok (plE_ok (show plE A B l = 0 by omega)).2.1).1
    split at h
    · rename_i h2
      unfold ordB at h2
      simp only [Bool.and_eq_true, decide_eq_true_eq] at h2
      exact ⟨by unfold ordL; rw [List.length_map]; exact h2.1, h8⟩
    · omega
/- what Order answers: nothing, or a block of its own -/
def OwnR (B : Nat) (W : World) (A : Option Addr) (n : Nat) : Prop := n = 0 ∨ ∃ g, ∃ xs : List St, A = some ⟨g, 0, none⟩ ∧ B ≤ g ∧ xs.length = n ∧ W.heap[g]? = some (.cells (xs.flatMap st5).toArray 56)
theorem OwnR.next {B : Nat} {W X : World} {A : Option Addr} {n : Nat} (h : OwnR B W A n) (hb : Below W.heap.size W X) : OwnR B X A n := h.imp id (fun ⟨g, xs, e, hg, hl, hk⟩ => ⟨g, xs, e, hg, hl, blk_next hb hk⟩)
theorem aorder_u {A B : Int} {a : Option Addr} {c : Nat} {l : List St} {w : World} (hl : RSt w a l) (hc : l.length ≤ c) (hc' : c ≤ 9223372036854775807) (hn : ∀ x ∈ l, x.nm.size ≤ 9223372036854775807) {aq : Option Addr} {cq : Nat} {q : List Int} (hq : Rd w 1 aq q.length (lv q)) (hcq : q.length ≤ cq) (hcq' : cq ≤ 9223372036854775807) : Calls Try.prog 11 #[Gv A B, .slice a l.length c, .slice aq q.length cq] w fun e w' =>
    ∃ Ax cx, e = .returned (.tuple #[.slice Ax (orL A B l q).length cx, .int .i64 (ordE A B l q)]) ∧ Below w.heap.size w w' ∧ (orL A B l q).length ≤ cx ∧ cx ≤ 9223372036854775807 ∧ RSt w' Ax (orL A B l q) ∧ OwnR w.heap.size w' Ax (orL A B l q).length := by
  refine (aorder_calls hl hc hc' hn hq hcq hcq').mono ?_
  rintro e w' ⟨v, rfl, hb, h0, h1⟩
  by_cases he : ordE A B l q = 0
  · obtain ⟨g, rfl, hg, hr⟩ := h1 he
    obtain ⟨k1, k2⟩ := ordE_len he
    have e1 : orL A B l q = ordL l q := by unfold orL; rw [if_pos he]
    rw [e1, k1]
    exact ⟨_, _, rfl, hb, Nat.le_refl _, by omega, Rd.blk hr (fm_len _ _ st5_len _), .inr ⟨g, _, rfl, hg, k1, hr⟩⟩
  · have e1 : orL A B l q = [] := by unfold orL; rw [if_neg he]
    rw [h0 he, e1]
    exact ⟨none, 0, rfl, hb, Nat.le_refl _, by omega, rd_nil _ _ _, .inl rfl⟩
theorem rorder_u {A B : Int} {a : Option Addr} {c : Nat} {l : List St} {w : World} (hl : RSt w a l) (hc : l.length ≤ c) (hc' : c ≤ 9223372036854775807) (hn : ∀ x ∈ l, x.nm.size ≤ 9223372036854775807) {aq : Option Addr} {cq : Nat} {q : List Int} (hq : Rd w 1 aq q.length (lv q)) (hcq : q.length ≤ cq) (hcq' : cq ≤ 9223372036854775807) : Calls Try.prog 12 #[Gv A B, .slice a l.length c, .slice aq q.length cq] w fun e w' =>
    ∃ Ax cx, e = .returned (.tuple #[.slice Ax (orL A B l q).length cx, .int .i64 (ordE A B l q)]) ∧ Below w.heap.size w w' ∧ (orL A B l q).length ≤ cx ∧ cx ≤ 9223372036854775807 ∧ RSt w' Ax (orL A B l q) := by
  refine (rorder_calls hl hc hc' hn hq hcq hcq').mono ?_
  rintro e w' ⟨v, rfl, hb, h0, h1⟩
  by_cases he : ordE A B l q = 0
  · have e1 : orL A B l q = ordL l q := by unfold orL; rw [if_pos he]
    rw [e1]
    obtain ⟨A1, c1, rfl, h2, h3, h4⟩ := Rd.of_own (h1 he)
    exact ⟨A1, c1, rfl, hb, h2, h3, h4⟩
  · have e1 : orL A B l q = [] := by unfold orL; rw [if_neg he]
    rw [h0 he, e1]
    exact ⟨none, 0, rfl, hb, Nat.le_refl _, by omega, rd_nil _ _ _⟩
set_option maxHeartbeats 16000000 in
theorem walk (A B i j : Int) (a aq : Option Addr) (c cq : Nat) (l : List St) (q : List Int) (w : World) (hc : l.length ≤ c) (hc' : c ≤ 9223372036854775807) (hl : RSt w a l) (hcq : q.length ≤ cq) (hcq' : cq ≤ 9223372036854775807) (hq : Rd w 1 aq q.length (lv q)) :
    Calls Try.prog 3 #[Gv A B, .slice a l.length c, .int .i64 i, .int .i64 j, .slice aq q.length cq] w fun e w' => e = .returned (.bool true) ∧ Below w.heap.size w w' := by
  have HL := Lib.hid hl
  have HQ := Lib.hid hq
  have NN := Lib.hid (Below.refl w.heap.size w)
  have GR := Lib.hid (fun (W : World) (hb : Below w.heap.size w W) => great_calls a c l W (hl.next hb) hc hc')
  clear hl hq
  cases hg : greatB l
  rotate_left
  · rw [hg] at GR
    clear hg
    go_enter Try.func3, Try.ntmps3
    go_wp2_with fail
    have G : Hid ((w.alloc (.cells #[.int .i64 A, .int .i64 B] 23)).heap[w.heap.size]? = some (.cells #[.int .i64 A, .int .i64 B] 23)) := Lib.hid (blk_new w _)
    replace NN : Hid (Below w.heap.size w (w.alloc (.cells #[.int .i64 A, .int .i64 B] 23))) := Lib.hid (Bal NN.out _)
    generalize (w.alloc (.cells #[.int .i64 A, .int .i64 B] 23)) = W1 at *
    refine (GR.out _ NN.out).mono ?_
    rintro e w2 ⟨rfl, hb⟩
    replace NN := Lib.hid (Bgo NN.out hb)
    replace G := Lib.hid (blk_next hb G.out)
    clear hb
    go_wp2_with fail
    go_ret
    exact ⟨rfl, NN.out⟩
  rw [hg] at GR
  obtain ⟨h20, hnm⟩ := great_no hg
  have HN := Lib.hid (fun (x : St) (hx : x ∈ l) => (Nat.le_trans (hnm x hx) (by omega) : x.nm.size ≤ 9223372036854775807))
  have H20 := Lib.hid h20
  clear hg hnm h20
  by_cases hq20 : 20 < q.length
  · have d1 : decide ((20 : Int) < (q.length : Int)) = true := decide_eq_true (by omega)
    go_enter Try.func3, Try.ntmps3
    go_wp2_with fail
    have G : Hid ((w.alloc (.cells #[.int .i64 A, .int .i64 B] 23)).heap[w.heap.size]? = some (.cells #[.int .i64 A, .int .i64 B] 23)) := Lib.hid (blk_new w _)
    replace NN : Hid (Below w.heap.size w (w.alloc (.cells #[.int .i64 A, .int .i64 B] 23))) := Lib.hid (Bal NN.out _)
    generalize (w.alloc (.cells #[.int .i64 A, .int .i64 B] 23)) = W3 at *
    refine (GR.out _ NN.out).mono ?_
    rintro e w4 ⟨rfl, hb⟩
    replace NN := Lib.hid (Bgo NN.out hb)
    replace G := Lib.hid (blk_next hb G.out)
    clear hb
    go_wp2_with fail
    go_ret
    exact ⟨rfl, NN.out⟩
  have d1 : decide ((20 : Int) < (q.length : Int)) = false := decide_eq_false (by omega)
  obtain ⟨i0, hi, hz, hs0, hb0⟩ := info_parts infoS
  have HI := Lib.hid (And.intro hi (And.intro hz (And.intro hs0 hb0)))
  clear hi hz hs0 hb0
  go_enter Try.func3, Try.ntmps3
  go_wp2_with fail
  have G : Hid ((w.alloc (.cells #[.int .i64 A, .int .i64 B] 23)).heap[w.heap.size]? = some (.cells #[.int .i64 A, .int .i64 B] 23)) := Lib.hid (blk_new w _)
  replace NN : Hid (Below w.heap.size w (w.alloc (.cells #[.int .i64 A, .int .i64 B] 23))) := Lib.hid (Bal NN.out _)
  generalize (w.alloc (.cells #[.int .i64 A, .int .i64 B] 23)) = W5 at *
  refine (GR.out _ NN.out).mono ?_
  rintro e w6 ⟨rfl, hb⟩
  replace NN := Lib.hid (Bgo NN.out hb)
  replace G := Lib.hid (blk_next hb G.out)
  clear hb
  have OO : Hid ((w6.alloc (.cells #[] 56)).ownsRow (w.heap.size + 1) 56 5 (.slice (some ⟨w6.heap.size, 0, none⟩) 0 0) 0 []) := Lib.hid (own_of_blk (blk_new w6 _) (blk_lt G.out) rfl (by omega))
  have RL : Hid (RSt (w6.alloc (.cells #[] 56)) a l) := Lib.hid (HL.out.next (Bal NN.out _))
  have H63 : Hid (0 + l.length ≤ maxLen) := Lib.hid (by have := H20.out; simp [maxLen]; omega)
  have H64 : Hid ((0 + l.length) * 48 ≤ 140737488355328) := Lib.hid (by have := H20.out; omega)
  have H5 : Hid (w.heap.size + 1 ≤ (w6.alloc (.cells #[] 56)).heap.size) := Lib.hid (by rw [World.size_alloc]; have := blk_lt G.out; omega)
  have NA : Hid (Below w.heap.size w (w6.alloc (.cells #[] 56))) := Lib.hid (Bal NN.out _)
  have GA := Lib.hid (blk_alloc G.out (.cells #[] 56))
  clear G NN
  go_wp2_with (at_builtin; refine wpList_append_rd _ rfl _ _ 24 rfl (w.heap.size + 1) 56 i0 (.agg #[.string ⟨#[]⟩, .int .i64 0, .int .i64 0, .int .i64 0, .int .i64 0]) 5 48 und_sites HI.out.1 HI.out.2.1 HI.out.2.2.1 HI.out.2.2.2 rfl (by decide) (.slice (some ⟨w6.heap.size, 0, none⟩) 0 0) 0 [] rfl OO.out a l.length c _ rfl RL.out (fm_one _ st5_one l) H63.out H64.out H5.out ?_; intro v9 w9 o9 g9 hat9; have BG := Lib.hid (own_grown OO.out g9 H5.out); have G := Lib.hid (blk_B BG.out GA.out (Nat.lt_succ_self _)); have NN := Lib.hid (NA.out.trans (BG.out.mono (Nat.le_succ _))); have cg0 := blk_cell G.out 0 _ rfl; have cg1 := blk_cell G.out 1 _ rfl; have lg := blk_lt G.out; clear g9 hat9)
  clear cg0 cg1 lg
  skip
  rw [List.nil_append, Nat.zero_add] at o9
  obtain ⟨AW, cW, rfl, hW1, hW2, hW3⟩ := Rd.of_own o9
  have RW := Lib.hid hW3
  have HW1 := Lib.hid hW1
  have HW2 := Lib.hid hW2
  clear o9 hW1 hW2 hW3 OO RL NA GA H63 H64 H5 BG
  refine (aplaces_u (A := A) (B := B) (HL.out.next NN.out) hc hc' HN.out).mono ?_
  rintro e w7 ⟨Ap, cp, rfl, hb, kp, kp', rp⟩
  replace NN := Lib.hid (Bgo NN.out hb)
  replace RW := Lib.hid (Rd.next hb RW.out)
  replace G := Lib.hid (blk_next hb G.out)
  clear hb
  have Rp := Lib.hid rp
  have Kp := Lib.hid kp
  have Kp' := Lib.hid kp'
  clear rp kp kp'
  have c_G_0 := blk_cell G.out 0 _ rfl
  have f_G_0 := blk_frozen G.out 0
  have c_G_1 := blk_cell G.out 1 _ rfl
  have f_G_1 := blk_frozen G.out 1
  have l_G := blk_lt G.out
  go_wp2_with fail
  clear c_G_0 f_G_0 c_G_1 f_G_1 l_G
  refine (rplaces_u (A := A) (B := B) (HL.out.next NN.out) hc hc' HN.out).mono ?_
  rintro e w8 ⟨Ar, cr, rfl, hb, kr, kr', rr⟩
  replace NN := Lib.hid (Bgo NN.out hb)
  replace RW := Lib.hid (Rd.next hb RW.out)
  replace Rp := Lib.hid (Rd.next hb Rp.out)
  replace G := Lib.hid (blk_next hb G.out)
  clear hb
  have Rr := Lib.hid rr
  have Kr := Lib.hid kr
  have Kr' := Lib.hid kr'
  clear rr kr kr'
  have c_G_0 := blk_cell G.out 0 _ rfl
  have f_G_0 := blk_frozen G.out 0
  have c_G_1 := blk_cell G.out 1 _ rfl
  have f_G_1 := blk_frozen G.out 1
  have l_G := blk_lt G.out
  go_wp2_with fail
  clear c_G_0 f_G_0 c_G_1 f_G_1 l_G
  refine (aline_calls i j (A := A) (B := B) (HL.out.next NN.out) hc hc' HN.out).mono ?_
  rintro e w9 ⟨rfl, hb⟩
  replace NN := Lib.hid (Bgo NN.out hb)
  replace RW := Lib.hid (Rd.next hb RW.out)
  replace Rp := Lib.hid (Rd.next hb Rp.out)
  replace Rr := Lib.hid (Rd.next hb Rr.out)
  replace G := Lib.hid (blk_next hb G.out)
  clear hb
  have HB := Lib.hid (show Below w9.heap.size w9 (w9.alloc (.cells #[.int .i64 (liV A B l i j).x1, .int .i64 (liV A B l i j).x2, .int .i64 (liV A B l i j).y1, .int .i64 (liV A B l i j).y2, .int .i64 (liV A B l i j).z1, .int .i64 (liV A B l i j).z2] 36)) from (Bal (Below.refl _ _) _))
  have V1 : Hid ((w9.alloc (.cells #[.int .i64 (liV A B l i j).x1, .int .i64 (liV A B l i j).x2, .int .i64 (liV A B l i j).y1, .int .i64 (liV A B l i j).y2, .int .i64 (liV A B l i j).z1, .int .i64 (liV A B l i j).z2] 36)).heap[w9.heap.size]? = some (.cells #[.int .i64 (liV A B l i j).x1, .int .i64 (liV A B l i j).x2, .int .i64 (liV A B l i j).y1, .int .i64 (liV A B l i j).y2, .int .i64 (liV A B l i j).z1, .int .i64 (liV A B l i j).z2] 36)) := Lib.hid (blk_new w9 _)
  have LT_V1 : Hid (w.heap.size < w9.heap.size ∧ w.heap.size ≤ w9.heap.size) := Lib.hid ⟨blk_lt G.out, NN.out.size⟩
  replace NN := Lib.hid (Bgo NN.out HB.out)
  replace RW := Lib.hid (Rd.next HB.out RW.out)
  replace Rp := Lib.hid (Rd.next HB.out Rp.out)
  replace Rr := Lib.hid (Rd.next HB.out Rr.out)
  replace G := Lib.hid (blk_next HB.out G.out)
  clear HB
  have c_G_0 := blk_cell G.out 0 _ rfl
  have f_G_0 := blk_frozen G.out 0
  have c_G_1 := blk_cell G.out 1 _ rfl
  have f_G_1 := blk_frozen G.out 1
  have l_G := blk_lt G.out
  go_wp2_with fail
  clear c_G_0 f_G_0 c_G_1 f_G_1 l_G
  generalize (w9.alloc (.cells #[.int .i64 (liV A B l i j).x1, .int .i64 (liV A B l i j).x2, .int .i64 (liV A B l i j).y1, .int .i64 (liV A B l i j).y2, .int .i64 (liV A B l i j).z1, .int .i64 (liV A B l i j).z2] 36)) = W10 at *
  generalize w9.heap.size = gV1 at *
  refine (rline_calls i j (A := A) (B := B) (HL.out.next NN.out) hc hc' HN.out).mono ?_
  rintro e w11 ⟨rfl, hb⟩
  replace NN := Lib.hid (Bgo NN.out hb)
  replace RW := Lib.hid (Rd.next hb RW.out)
  replace Rp := Lib.hid (Rd.next hb Rp.out)
  replace Rr := Lib.hid (Rd.next hb Rr.out)
  replace G := Lib.hid (blk_next hb G.out)
  replace V1 := Lib.hid (blk_next hb V1.out)
  clear hb
  have HB := Lib.hid (show Below w11.heap.size w11 (w11.alloc (.cells #[.int .i64 (liV A B l i j).x1, .int .i64 (liV A B l i j).x2, .int .i64 (liV A B l i j).y1, .int .i64 (liV A B l i j).y2, .int .i64 (liV A B l i j).z1, .int .i64 (liV A B l i j).z2] 36)) from (Bal (Below.refl _ _) _))
  have V2 : Hid ((w11.alloc (.cells #[.int .i64 (liV A B l i j).x1, .int .i64 (liV A B l i j).x2, .int .i64 (liV A B l i j).y1, .int .i64 (liV A B l i j).y2, .int .i64 (liV A B l i j).z1, .int .i64 (liV A B l i j).z2] 36)).heap[w11.heap.size]? = some (.cells #[.int .i64 (liV A B l i j).x1, .int .i64 (liV A B l i j).x2, .int .i64 (liV A B l i j).y1, .int .i64 (liV A B l i j).y2, .int .i64 (liV A B l i j).z1, .int .i64 (liV A B l i j).z2] 36)) := Lib.hid (blk_new w11 _)
  have LT_V2 : Hid (w.heap.size < w11.heap.size ∧ gV1 < w11.heap.size ∧ w.heap.size ≤ w11.heap.size) := Lib.hid ⟨blk_lt G.out, blk_lt V1.out, NN.out.size⟩
  replace NN := Lib.hid (Bgo NN.out HB.out)
  replace RW := Lib.hid (Rd.next HB.out RW.out)
  replace Rp := Lib.hid (Rd.next HB.out Rp.out)
  replace Rr := Lib.hid (Rd.next HB.out Rr.out)
  replace G := Lib.hid (blk_next HB.out G.out)
  replace V1 := Lib.hid (blk_next HB.out V1.out)
  clear HB
  have c_G_0 := blk_cell G.out 0 _ rfl
  have f_G_0 := blk_frozen G.out 0
  have c_G_1 := blk_cell G.out 1 _ rfl
  have f_G_1 := blk_frozen G.out 1
  have l_G := blk_lt G.out
  go_wp2_with fail
  clear c_G_0 f_G_0 c_G_1 f_G_1 l_G
  generalize (w11.alloc (.cells #[.int .i64 (liV A B l i j).x1, .int .i64 (liV A B l i j).x2, .int .i64 (liV A B l i j).y1, .int .i64 (liV A B l i j).y2, .int .i64 (liV A B l i j).z1, .int .i64 (liV A B l i j).z2] 36)) = W12 at *
  generalize w11.heap.size = gV2 at *
  refine (apairs_u i _).mono ?_
  rintro e w13 ⟨As, cs, rfl, hb, ks, ks', rs⟩
  replace NN := Lib.hid (Bgo NN.out hb)
  replace RW := Lib.hid (Rd.next hb RW.out)
  replace Rp := Lib.hid (Rd.next hb Rp.out)
  replace Rr := Lib.hid (Rd.next hb Rr.out)
  replace G := Lib.hid (blk_next hb G.out)
  replace V1 := Lib.hid (blk_next hb V1.out)
  replace V2 := Lib.hid (blk_next hb V2.out)
  clear hb
  have Rs := Lib.hid rs
  have Ks := Lib.hid ks
  have Ks' := Lib.hid ks'
  clear rs ks ks'
  go_wp2_with fail
  refine (rpairs_u i _).mono ?_
  rintro e w14 ⟨At, ct, rfl, hb, kt, kt', rt⟩
  replace NN := Lib.hid (Bgo NN.out hb)
  replace RW := Lib.hid (Rd.next hb RW.out)
  replace Rp := Lib.hid (Rd.next hb Rp.out)
  replace Rr := Lib.hid (Rd.next hb Rr.out)
  replace Rs := Lib.hid (Rd.next hb Rs.out)
  replace G := Lib.hid (blk_next hb G.out)
  replace V1 := Lib.hid (blk_next hb V1.out)
  replace V2 := Lib.hid (blk_next hb V2.out)
  clear hb
  have Rt := Lib.hid rt
  have Kt := Lib.hid kt
  have Kt' := Lib.hid kt'
  clear rt kt kt'
  have c_G_0 := blk_cell G.out 0 _ rfl
  have f_G_0 := blk_frozen G.out 0
  have c_G_1 := blk_cell G.out 1 _ rfl
  have f_G_1 := blk_frozen G.out 1
  have l_G := blk_lt G.out
  go_wp2_with fail
  clear c_G_0 f_G_0 c_G_1 f_G_1 l_G
  have NO : Hid (Below w14.heap.size w14 w14) := Lib.hid (Below.refl _ _)
  have RWO : Hid (RSt w14 AW l) := RW
  have LBO : Hid (w.heap.size ≤ w14.heap.size) := Lib.hid NN.out.size
  have RA := Lib.hid (HL.out.next NN.out)
  have NN0 := NN
  refine (aorder_u (A := A) (B := B) (HL.out.next NN.out) hc hc' HN.out (HQ.out.next NN.out) hcq hcq').mono ?_
  rintro e w15 ⟨Au, cu, rfl, hb, ku, ku', ru, ou⟩
  replace NN := Lib.hid (Bgo NN.out hb)
  replace RW := Lib.hid (Rd.next hb RW.out)
  replace Rp := Lib.hid (Rd.next hb Rp.out)
  replace Rr := Lib.hid (Rd.next hb Rr.out)
  replace Rs := Lib.hid (Rd.next hb Rs.out)
  replace Rt := Lib.hid (Rd.next hb Rt.out)
  replace NO := Lib.hid (below_go NO.out hb)
  replace RA := Lib.hid (Rd.next hb RA.out)
  replace G := Lib.hid (blk_next hb G.out)
  replace V1 := Lib.hid (blk_next hb V1.out)
  replace V2 := Lib.hid (blk_next hb V2.out)
  clear hb
  have Ru := Lib.hid ru
  have Ku := Lib.hid ku
  have Ku' := Lib.hid ku'
  have Ou := Lib.hid ou
  clear ru ku ku' ou
  have c_G_0 := blk_cell G.out 0 _ rfl
  have f_G_0 := blk_frozen G.out 0
  have c_G_1 := blk_cell G.out 1 _ rfl
  have f_G_1 := blk_frozen G.out 1
  have l_G := blk_lt G.out
  go_wp2_with fail
  clear c_G_0 f_G_0 c_G_1 f_G_1 l_G
  refine (rorder_u (A := A) (B := B) (HL.out.next NN.out) hc hc' HN.out (HQ.out.next NN.out) hcq hcq').mono ?_
  rintro e w16 ⟨Av, cv, rfl, hb, kv, kv', rv⟩
  replace NN := Lib.hid (Bgo NN.out hb)
  replace RW := Lib.hid (Rd.next hb RW.out)
  replace Rp := Lib.hid (Rd.next hb Rp.out)
  replace Rr := Lib.hid (Rd.next hb Rr.out)
  replace Rs := Lib.hid (Rd.next hb Rs.out)
  replace Rt := Lib.hid (Rd.next hb Rt.out)
  replace NO := Lib.hid (below_go NO.out hb)
  replace RA := Lib.hid (Rd.next hb RA.out)
  replace Ru := Lib.hid (Rd.next hb Ru.out)
  replace Ou := Lib.hid (OwnR.next Ou.out hb)
  replace G := Lib.hid (blk_next hb G.out)
  replace V1 := Lib.hid (blk_next hb V1.out)
  replace V2 := Lib.hid (blk_next hb V2.out)
  clear hb
  have Rv := Lib.hid rv
  have Kv := Lib.hid kv
  have Kv' := Lib.hid kv'
  clear rv kv kv'
  go_upto_region 12 with fail
  have HDRW := Lib.hid (Below.drew (Below.refl w16.heap.size w16))
  replace NN := Lib.hid (Bgo NN.out HDRW.out)
  replace RW := Lib.hid (Rd.next HDRW.out RW.out)
  replace Rp := Lib.hid (Rd.next HDRW.out Rp.out)
  replace Rr := Lib.hid (Rd.next HDRW.out Rr.out)
  replace Rs := Lib.hid (Rd.next HDRW.out Rs.out)
  replace Rt := Lib.hid (Rd.next HDRW.out Rt.out)
  replace NO := Lib.hid (below_go NO.out HDRW.out)
  replace RA := Lib.hid (Rd.next HDRW.out RA.out)
  replace Ru := Lib.hid (Rd.next HDRW.out Ru.out)
  replace Ou := Lib.hid (OwnR.next Ou.out HDRW.out)
  replace Rv := Lib.hid (Rd.next HDRW.out Rv.out)
  replace G := Lib.hid (blk_next HDRW.out G.out)
  replace V1 := Lib.hid (blk_next HDRW.out V1.out)
  replace V2 := Lib.hid (blk_next HDRW.out V2.out)
  clear HDRW
  have HAL : Hid (∀ kx9 : Nat, GB [(0, w.heap.size, .cells #[.int .i64 A, .int .i64 B] 23), (3, w.heap.size, .cells #[.int .i64 A, .int .i64 B] 23), (19, gV1, .cells #[.int .i64 (liV A B l i j).x1, .int .i64 (liV A B l i j).x2, .int .i64 (liV A B l i j).y1, .int .i64 (liV A B l i j).y2, .int .i64 (liV A B l i j).z1, .int .i64 (liV A B l i j).z2] 36), (20, gV2, .cells #[.int .i64 (liV A B l i j).x1, .int .i64 (liV A B l i j).x2, .int .i64 (liV A B l i j).y1, .int .i64 (liV A B l i j).y2, .int .i64 (liV A B l i j).z1, .int .i64 (liV A B l i j).z2] 36)] w16.drew kx9 w16.drew) := Lib.hid (fun kx9 => ⟨fun px9 hp e => by
    simp only [List.mem_cons, List.not_mem_nil, or_false] at hp
    rcases hp with rfl | rfl | rfl | rfl
    · exact G.out
    · exact G.out
    · exact V1.out
    · exact V2.out
  , Below.refl _ _⟩)
  refine region_G (S := GB [(0, w.heap.size, .cells #[.int .i64 A, .int .i64 B] 23), (3, w.heap.size, .cells #[.int .i64 A, .int .i64 B] 23), (19, gV1, .cells #[.int .i64 (liV A B l i j).x1, .int .i64 (liV A B l i j).x2, .int .i64 (liV A B l i j).y1, .int .i64 (liV A B l i j).y2, .int .i64 (liV A B l i j).z1, .int .i64 (liV A B l i j).z2] 36), (20, gV2, .cells #[.int .i64 (liV A B l i j).x1, .int .i64 (liV A B l i j).x2, .int .i64 (liV A B l i j).y1, .int .i64 (liV A B l i j).y2, .int .i64 (liV A B l i j).z1, .int .i64 (liV A B l i j).z2] 36)] w16.drew) (by kernel_rfl) ?_
  refine take_G 0 (.agg #[.int .i64 A, .int .i64 B]) (some 91) GB.grow (by kernel_rfl) rfl (by kernel_rfl) (by kernel_rfl) (by kernel_rfl) rfl (fun _ _ _ h => h) (YieldsIf.toG (Or.inl ⟨by rfl, ?_⟩)) (HAL.out 0) ?_
  · intro X hX
    have hh := hX.1 (0, w.heap.size, .cells #[.int .i64 A, .int .i64 B] 23) (List.Mem.head _) rfl
    have hh0 := blk_cell hh 0 _ rfl
    have hh1 := blk_cell hh 1 _ rfl
    have hhl := blk_lt hh
    clear hh
    clear hX
    go_simp
  try simp only [Act.put, List.setIfInBounds_toArray, List.set_cons_zero, List.set_cons_succ]
  refine take_G 1 (.slice a l.length c) (some 92) GB.grow (by kernel_rfl) rfl (by kernel_rfl) (by kernel_rfl) (by kernel_rfl) rfl (fun _ _ _ h => h) (YieldsIf.toG (Or.inl ⟨by rfl, ?_⟩)) (HAL.out 1) ?_
  · intro X hX
    clear hX
    go_simp
  try simp only [Act.put, List.setIfInBounds_toArray, List.set_cons_zero, List.set_cons_succ]
  have CFn : ∀ (args : Array Value) (W : World), Sem.run Try.prog (callFunc 13 args) W = .ok (.enter 13 args) W := fun _ _ => by kernel_rfl
  refine take_G 2 (.int .i64 (plE A B l)) (some 93) GB.grow (by kernel_rfl) rfl (by kernel_rfl) (by kernel_rfl) (by kernel_rfl) rfl (fun _ _ _ h => h) (yieldsG_call 13 #[.agg #[.int .i64 A, .int .i64 B], .slice a l.length c] (by rfl) ?_ (fun X hS => acheck_calls (A := A) (B := B) (RA.out.next hS.2) hc hc' HN.out)) (HAL.out 2) ?_
  · intro X hX
    clear hX
    go_simp
  clear CFn
  try simp only [Act.put, List.setIfInBounds_toArray, List.set_cons_zero, List.set_cons_succ]
  refine take_G 3 (.agg #[.int .i64 A, .int .i64 B]) (some 94) GB.grow (by kernel_rfl) rfl (by kernel_rfl) (by kernel_rfl) (by kernel_rfl) rfl (fun _ _ _ h => h) (YieldsIf.toG (Or.inl ⟨by rfl, ?_⟩)) (HAL.out 3) ?_
  · intro X hX
    have hh := hX.1 (3, w.heap.size, .cells #[.int .i64 A, .int .i64 B] 23) (List.Mem.tail _ (List.Mem.head _)) rfl
    have hh0 := blk_cell hh 0 _ rfl
    have hh1 := blk_cell hh 1 _ rfl
    have hhl := blk_lt hh
    clear hh
    clear hX
    go_simp
  try simp only [Act.put, List.setIfInBounds_toArray, List.set_cons_zero, List.set_cons_succ]
  refine take_G 4 (.slice a l.length c) (some 95) GB.grow (by kernel_rfl) rfl (by kernel_rfl) (by kernel_rfl) (by kernel_rfl) rfl (fun _ _ _ h => h) (YieldsIf.toG (Or.inl ⟨by rfl, ?_⟩)) (HAL.out 4) ?_
  · intro X hX
    clear hX
    go_simp
  try simp only [Act.put, List.setIfInBounds_toArray, List.set_cons_zero, List.set_cons_succ]
  have CFn : ∀ (args : Array Value) (W : World), Sem.run Try.prog (callFunc 14 args) W = .ok (.enter 14 args) W := fun _ _ => by kernel_rfl
  refine take_G 5 (.int .i64 (plE A B l)) (some 96) GB.grow (by kernel_rfl) rfl (by kernel_rfl) (by kernel_rfl) (by kernel_rfl) rfl (fun _ _ _ h => h) (yieldsG_call 14 #[.agg #[.int .i64 A, .int .i64 B], .slice a l.length c] (by rfl) ?_ (fun X hS => rcheck_calls (A := A) (B := B) (RA.out.next hS.2) hc hc' HN.out)) (HAL.out 5) ?_
  · intro X hX
    clear hX
    go_simp
  clear CFn
  try simp only [Act.put, List.setIfInBounds_toArray, List.set_cons_zero, List.set_cons_succ]
  refine take_G 6 (.bool false) (some 97) GB.grow (by kernel_rfl) rfl (by kernel_rfl) (by kernel_rfl) (by kernel_rfl) rfl (fun _ _ _ h => h) (YieldsIf.toG (Or.inl ⟨by rfl, ?_⟩)) (HAL.out 6) ?_
  · intro X hX
    clear hX
    go_simp
  try simp only [Act.put, List.setIfInBounds_toArray, List.set_cons_zero, List.set_cons_succ]
  refine take_G 7 (.bool false) (some 98) GB.grow (by kernel_rfl) rfl (by kernel_rfl) (by kernel_rfl) (by kernel_rfl) rfl (fun _ _ _ h => h) (YieldsIf.toG (Or.inl ⟨by rfl, ?_⟩)) (HAL.out 7) ?_
  · intro X hX
    clear hX
    go_simp
  try simp only [Act.put, List.setIfInBounds_toArray, List.set_cons_zero, List.set_cons_succ]
  refine take_G 8 (.slice Ap (plL A B l).length cp) (some 99) GB.grow (by kernel_rfl) rfl (by kernel_rfl) (by kernel_rfl) (by kernel_rfl) rfl (fun _ _ _ h => h) (YieldsIf.toG (Or.inl ⟨by rfl, ?_⟩)) (HAL.out 8) ?_
  · intro X hX
    clear hX
    go_simp
  try simp only [Act.put, List.setIfInBounds_toArray, List.set_cons_zero, List.set_cons_succ]
  refine take_G 9 (.slice Ar (plL A B l).length cr) (some 100) GB.grow (by kernel_rfl) rfl (by kernel_rfl) (by kernel_rfl) (by kernel_rfl) rfl (fun _ _ _ h => h) (YieldsIf.toG (Or.inl ⟨by rfl, ?_⟩)) (HAL.out 9) ?_
  · intro X hX
    clear hX
    go_simp
  try simp only [Act.put, List.setIfInBounds_toArray, List.set_cons_zero, List.set_cons_succ]
  have CFn : ∀ (args : Array Value) (W : World), Sem.run Try.prog (callFunc 15 args) W = .ok (.enter 15 args) W := fun _ _ => by kernel_rfl
  refine take_G 10 (.bool true) (some 101) GB.grow (by kernel_rfl) rfl (by kernel_rfl) (by kernel_rfl) (by kernel_rfl) rfl (fun _ _ _ h => h) (yieldsG_call 15 #[.slice Ap (plL A B l).length cp, .slice Ar (plL A B l).length cr] (by rfl) ?_ (fun X hS => sameV_calls _ _ _ _ _ X (Rp.out.next hS.2) (Rr.out.next hS.2) Kp.out Kp'.out Kr.out Kr'.out)) (HAL.out 10) ?_
  · intro X hX
    clear hX
    go_simp
  clear CFn
  try simp only [Act.put, List.setIfInBounds_toArray, List.set_cons_zero, List.set_cons_succ]
  refine take_G 11 (.bool false) (some 102) GB.grow (by kernel_rfl) rfl (by kernel_rfl) (by kernel_rfl) (by kernel_rfl) rfl (fun _ _ _ h => h) (YieldsIf.toG (Or.inl ⟨by rfl, ?_⟩)) (HAL.out 11) ?_
  · intro X hX
    clear hX
    go_simp
  try simp only [Act.put, List.setIfInBounds_toArray, List.set_cons_zero, List.set_cons_succ]
  refine take_G 12 (.bool false) (some 103) GB.grow (by kernel_rfl) rfl (by kernel_rfl) (by kernel_rfl) (by kernel_rfl) rfl (fun _ _ _ h => h) (YieldsIf.toG (Or.inl ⟨by rfl, ?_⟩)) (HAL.out 12) ?_
  · intro X hX
    clear hX
    go_simp
  try simp only [Act.put, List.setIfInBounds_toArray, List.set_cons_zero, List.set_cons_succ]
  refine take_G 13 (.bool false) (some 104) GB.grow (by kernel_rfl) rfl (by kernel_rfl) (by kernel_rfl) (by kernel_rfl) rfl (fun _ _ _ h => h) (YieldsIf.toG (Or.inl ⟨by rfl, ?_⟩)) (HAL.out 13) ?_
  · intro X hX
    clear hX
    go_simp
  try simp only [Act.put, List.setIfInBounds_toArray, List.set_cons_zero, List.set_cons_succ]
  refine take_G 14 (.int .i64 (plE A B l)) (some 105) GB.grow (by kernel_rfl) rfl (by kernel_rfl) (by kernel_rfl) (by kernel_rfl) rfl (fun _ _ _ h => h) (YieldsIf.toG (Or.inl ⟨by rfl, ?_⟩)) (HAL.out 14) ?_
  · intro X hX
    clear hX
    go_simp
  try simp only [Act.put, List.setIfInBounds_toArray, List.set_cons_zero, List.set_cons_succ]
  refine take_G 15 (.int .i64 (plE A B l)) (some 106) GB.grow (by kernel_rfl) rfl (by kernel_rfl) (by kernel_rfl) (by kernel_rfl) rfl (fun _ _ _ h => h) (YieldsIf.toG (Or.inl ⟨by rfl, ?_⟩)) (HAL.out 15) ?_
  · intro X hX
    clear hX
    go_simp
  try simp only [Act.put, List.setIfInBounds_toArray, List.set_cons_zero, List.set_cons_succ]
  refine take_G 16 (.bool false) (some 107) GB.grow (by kernel_rfl) rfl (by kernel_rfl) (by kernel_rfl) (by kernel_rfl) rfl (fun _ _ _ h => h) (YieldsIf.toG (Or.inl ⟨by rfl, ?_⟩)) (HAL.out 16) ?_
  · intro X hX
    clear hX
    go_simp
  try simp only [Act.put, List.setIfInBounds_toArray, List.set_cons_zero, List.set_cons_succ]
  refine take_G 17 (.bool false) (some 108) GB.grow (by kernel_rfl) rfl (by kernel_rfl) (by kernel_rfl) (by kernel_rfl) rfl (fun _ _ _ h => h) (YieldsIf.toG (Or.inl ⟨by rfl, ?_⟩)) (HAL.out 17) ?_
  · intro X hX
    clear hX
    go_simp
  try simp only [Act.put, List.setIfInBounds_toArray, List.set_cons_zero, List.set_cons_succ]
  refine take_G 18 (.bool false) (some 109) GB.grow (by kernel_rfl) rfl (by kernel_rfl) (by kernel_rfl) (by kernel_rfl) rfl (fun _ _ _ h => h) (YieldsIf.toG (Or.inl ⟨by rfl, ?_⟩)) (HAL.out 18) ?_
  · intro X hX
    clear hX
    go_simp
  try simp only [Act.put, List.setIfInBounds_toArray, List.set_cons_zero, List.set_cons_succ]
  refine take_G 19 (.agg #[.int .i64 (liV A B l i j).x1, .int .i64 (liV A B l i j).x2, .int .i64 (liV A B l i j).y1, .int .i64 (liV A B l i j).y2, .int .i64 (liV A B l i j).z1, .int .i64 (liV A B l i j).z2]) (some 110) GB.grow (by kernel_rfl) rfl (by kernel_rfl) (by kernel_rfl) (by kernel_rfl) rfl (fun _ _ _ h => h) (YieldsIf.toG (Or.inl ⟨by rfl, ?_⟩)) (HAL.out 19) ?_
  · intro X hX
    have hh := hX.1 (19, gV1, .cells #[.int .i64 (liV A B l i j).x1, .int .i64 (liV A B l i j).x2, .int .i64 (liV A B l i j).y1, .int .i64 (liV A B l i j).y2, .int .i64 (liV A B l i j).z1, .int .i64 (liV A B l i j).z2] 36) (List.Mem.tail _ (List.Mem.tail _ (List.Mem.head _))) rfl
    have hh0 := blk_cell hh 0 _ rfl
    have hh1 := blk_cell hh 1 _ rfl
    have hh2 := blk_cell hh 2 _ rfl
    have hh3 := blk_cell hh 3 _ rfl
    have hh4 := blk_cell hh 4 _ rfl
    have hh5 := blk_cell hh 5 _ rfl
    have hhl := blk_lt hh
    clear hh
    clear hX
    go_simp
  try simp only [Act.put, List.setIfInBounds_toArray, List.set_cons_zero, List.set_cons_succ]
  refine take_G 20 (.agg #[.int .i64 (liV A B l i j).x1, .int .i64 (liV A B l i j).x2, .int .i64 (liV A B l i j).y1, .int .i64 (liV A B l i j).y2, .int .i64 (liV A B l i j).z1, .int .i64 (liV A B l i j).z2]) (some 111) GB.grow (by kernel_rfl) rfl (by kernel_rfl) (by kernel_rfl) (by kernel_rfl) rfl (fun _ _ _ h => h) (YieldsIf.toG (Or.inl ⟨by rfl, ?_⟩)) (HAL.out 20) ?_
  · intro X hX
    have hh := hX.1 (20, gV2, .cells #[.int .i64 (liV A B l i j).x1, .int .i64 (liV A B l i j).x2, .int .i64 (liV A B l i j).y1, .int .i64 (liV A B l i j).y2, .int .i64 (liV A B l i j).z1, .int .i64 (liV A B l i j).z2] 36) (List.Mem.tail _ (List.Mem.tail _ (List.Mem.tail _ (List.Mem.head _)))) rfl
    have hh0 := blk_cell hh 0 _ rfl
    have hh1 := blk_cell hh 1 _ rfl
    have hh2 := blk_cell hh 2 _ rfl
    have hh3 := blk_cell hh 3 _ rfl
    have hh4 := blk_cell hh 4 _ rfl
    have hh5 := blk_cell hh 5 _ rfl
    have hhl := blk_lt hh
    clear hh
    clear hX
    go_simp
  try simp only [Act.put, List.setIfInBounds_toArray, List.set_cons_zero, List.set_cons_succ]
  refine take_G 21 (.bool false) (some 112) GB.grow (by kernel_rfl) rfl (by kernel_rfl) (by kernel_rfl) (by kernel_rfl) rfl (fun _ _ _ h => h) (YieldsIf.toG (Or.inl ⟨by rfl, ?_⟩)) (HAL.out 21) ?_
  · intro X hX
    clear hX
    go_simp
  try simp only [Act.put, List.setIfInBounds_toArray, List.set_cons_zero, List.set_cons_succ]
  refine take_G 22 (.bool false) (some 113) GB.grow (by kernel_rfl) rfl (by kernel_rfl) (by kernel_rfl) (by kernel_rfl) rfl (fun _ _ _ h => h) (YieldsIf.toG (Or.inl ⟨by rfl, ?_⟩)) (HAL.out 22) ?_
  · intro X hX
    clear hX
    go_simp
  try simp only [Act.put, List.setIfInBounds_toArray, List.set_cons_zero, List.set_cons_succ]
  refine take_G 23 (.bool false) (some 114) GB.grow (by kernel_rfl) rfl (by kernel_rfl) (by kernel_rfl) (by kernel_rfl) rfl (fun _ _ _ h => h) (YieldsIf.toG (Or.inl ⟨by rfl, ?_⟩)) (HAL.out 23) ?_
  · intro X hX
    clear hX
    go_simp
  try simp only [Act.put, List.setIfInBounds_toArray, List.set_cons_zero, List.set_cons_succ]
  refine take_G 24 (.int .i64 (liE A B l i j)) (some 115) GB.grow (by kernel_rfl) rfl (by kernel_rfl) (by kernel_rfl) (by kernel_rfl) rfl (fun _ _ _ h => h) (YieldsIf.toG (Or.inl ⟨by rfl, ?_⟩)) (HAL.out 24) ?_
  · intro X hX
    clear hX
    go_simp
  try simp only [Act.put, List.setIfInBounds_toArray, List.set_cons_zero, List.set_cons_succ]
  refine take_G 25 (.int .i64 (liE A B l i j)) (some 116) GB.grow (by kernel_rfl) rfl (by kernel_rfl) (by kernel_rfl) (by kernel_rfl) rfl (fun _ _ _ h => h) (YieldsIf.toG (Or.inl ⟨by rfl, ?_⟩)) (HAL.out 25) ?_
  · intro X hX
    clear hX
    go_simp
  try simp only [Act.put, List.setIfInBounds_toArray, List.set_cons_zero, List.set_cons_succ]
  refine take_G 26 (.bool false) (some 117) GB.grow (by kernel_rfl) rfl (by kernel_rfl) (by kernel_rfl) (by kernel_rfl) rfl (fun _ _ _ h => h) (YieldsIf.toG (Or.inl ⟨by rfl, ?_⟩)) (HAL.out 26) ?_
  · intro X hX
    clear hX
    go_simp
  try simp only [Act.put, List.setIfInBounds_toArray, List.set_cons_zero, List.set_cons_succ]
  refine take_G 27 (.bool false) (some 118) GB.grow (by kernel_rfl) rfl (by kernel_rfl) (by kernel_rfl) (by kernel_rfl) rfl (fun _ _ _ h => h) (YieldsIf.toG (Or.inl ⟨by rfl, ?_⟩)) (HAL.out 27) ?_
  · intro X hX
    clear hX
    go_simp
  try simp only [Act.put, List.setIfInBounds_toArray, List.set_cons_zero, List.set_cons_succ]
  refine take_G 28 (.bool false) (some 119) GB.grow (by kernel_rfl) rfl (by kernel_rfl) (by kernel_rfl) (by kernel_rfl) rfl (fun _ _ _ h => h) (YieldsIf.toG (Or.inl ⟨by rfl, ?_⟩)) (HAL.out 28) ?_
  · intro X hX
    clear hX
    go_simp
  try simp only [Act.put, List.setIfInBounds_toArray, List.set_cons_zero, List.set_cons_succ]
  refine take_G 29 (.slice As (prL i).length cs) (some 120) GB.grow (by kernel_rfl) rfl (by kernel_rfl) (by kernel_rfl) (by kernel_rfl) rfl (fun _ _ _ h => h) (YieldsIf.toG (Or.inl ⟨by rfl, ?_⟩)) (HAL.out 29) ?_
  · intro X hX
    clear hX
    go_simp
  try simp only [Act.put, List.setIfInBounds_toArray, List.set_cons_zero, List.set_cons_succ]
  refine take_G 30 (.slice At (prL i).length ct) (some 121) GB.grow (by kernel_rfl) rfl (by kernel_rfl) (by kernel_rfl) (by kernel_rfl) rfl (fun _ _ _ h => h) (YieldsIf.toG (Or.inl ⟨by rfl, ?_⟩)) (HAL.out 30) ?_
  · intro X hX
    clear hX
    go_simp
  try simp only [Act.put, List.setIfInBounds_toArray, List.set_cons_zero, List.set_cons_succ]
  have CFn : ∀ (args : Array Value) (W : World), Sem.run Try.prog (callFunc 16 args) W = .ok (.enter 16 args) W := fun _ _ => by kernel_rfl
  refine take_G 31 (.bool true) (some 122) GB.grow (by kernel_rfl) rfl (by kernel_rfl) (by kernel_rfl) (by kernel_rfl) rfl (fun _ _ _ h => h) (yieldsG_call 16 #[.slice As (prL i).length cs, .slice At (prL i).length ct] (by rfl) ?_ (fun X hS => sameP_calls _ _ _ _ _ X (Rs.out.next hS.2) (Rt.out.next hS.2) Ks.out Ks'.out Kt.out Kt'.out)) (HAL.out 31) ?_
  · intro X hX
    clear hX
    go_simp
  clear CFn
  try simp only [Act.put, List.setIfInBounds_toArray, List.set_cons_zero, List.set_cons_succ]
  refine take_G 32 (.bool false) (some 123) GB.grow (by kernel_rfl) rfl (by kernel_rfl) (by kernel_rfl) (by kernel_rfl) rfl (fun _ _ _ h => h) (YieldsIf.toG (Or.inl ⟨by rfl, ?_⟩)) (HAL.out 32) ?_
  · intro X hX
    clear hX
    go_simp
  try simp only [Act.put, List.setIfInBounds_toArray, List.set_cons_zero, List.set_cons_succ]
  refine take_G 33 (.bool false) (some 124) GB.grow (by kernel_rfl) rfl (by kernel_rfl) (by kernel_rfl) (by kernel_rfl) rfl (fun _ _ _ h => h) (YieldsIf.toG (Or.inl ⟨by rfl, ?_⟩)) (HAL.out 33) ?_
  · intro X hX
    clear hX
    go_simp
  try simp only [Act.put, List.setIfInBounds_toArray, List.set_cons_zero, List.set_cons_succ]
  refine take_G 34 (.bool false) (some 125) GB.grow (by kernel_rfl) rfl (by kernel_rfl) (by kernel_rfl) (by kernel_rfl) rfl (fun _ _ _ h => h) (YieldsIf.toG (Or.inl ⟨by rfl, ?_⟩)) (HAL.out 34) ?_
  · intro X hX
    clear hX
    go_simp
  try simp only [Act.put, List.setIfInBounds_toArray, List.set_cons_zero, List.set_cons_succ]
  refine take_G 35 (.int .i64 (prE i)) (some 126) GB.grow (by kernel_rfl) rfl (by kernel_rfl) (by kernel_rfl) (by kernel_rfl) rfl (fun _ _ _ h => h) (YieldsIf.toG (Or.inl ⟨by rfl, ?_⟩)) (HAL.out 35) ?_
  · intro X hX
    clear hX
    go_simp
  try simp only [Act.put, List.setIfInBounds_toArray, List.set_cons_zero, List.set_cons_succ]
  refine take_G 36 (.int .i64 (prE i)) (some 127) GB.grow (by kernel_rfl) rfl (by kernel_rfl) (by kernel_rfl) (by kernel_rfl) rfl (fun _ _ _ h => h) (YieldsIf.toG (Or.inl ⟨by rfl, ?_⟩)) (HAL.out 36) ?_
  · intro X hX
    clear hX
    go_simp
  try simp only [Act.put, List.setIfInBounds_toArray, List.set_cons_zero, List.set_cons_succ]
  refine take_G 37 (.bool false) (some 128) GB.grow (by kernel_rfl) rfl (by kernel_rfl) (by kernel_rfl) (by kernel_rfl) rfl (fun _ _ _ h => h) (YieldsIf.toG (Or.inl ⟨by rfl, ?_⟩)) (HAL.out 37) ?_
  · intro X hX
    clear hX
    go_simp
  try simp only [Act.put, List.setIfInBounds_toArray, List.set_cons_zero, List.set_cons_succ]
  refine take_G 38 (.bool false) (some 129) GB.grow (by kernel_rfl) rfl (by kernel_rfl) (by kernel_rfl) (by kernel_rfl) rfl (fun _ _ _ h => h) (YieldsIf.toG (Or.inl ⟨by rfl, ?_⟩)) (HAL.out 38) ?_
  · intro X hX
    clear hX
    go_simp
  try simp only [Act.put, List.setIfInBounds_toArray, List.set_cons_zero, List.set_cons_succ]
  refine take_G 39 (.bool false) (some 130) GB.grow (by kernel_rfl) rfl (by kernel_rfl) (by kernel_rfl) (by kernel_rfl) rfl (fun _ _ _ h => h) (YieldsIf.toG (Or.inl ⟨by rfl, ?_⟩)) (HAL.out 39) ?_
  · intro X hX
    clear hX
    go_simp
  try simp only [Act.put, List.setIfInBounds_toArray, List.set_cons_zero, List.set_cons_succ]
  refine take_G 40 (.slice Au (orL A B l q).length cu) (some 131) GB.grow (by kernel_rfl) rfl (by kernel_rfl) (by kernel_rfl) (by kernel_rfl) rfl (fun _ _ _ h => h) (YieldsIf.toG (Or.inl ⟨by rfl, ?_⟩)) (HAL.out 40) ?_
  · intro X hX
    clear hX
    go_simp
  try simp only [Act.put, List.setIfInBounds_toArray, List.set_cons_zero, List.set_cons_succ]
  refine take_G 41 (.slice Av (orL A B l q).length cv) (some 132) GB.grow (by kernel_rfl) rfl (by kernel_rfl) (by kernel_rfl) (by kernel_rfl) rfl (fun _ _ _ h => h) (YieldsIf.toG (Or.inl ⟨by rfl, ?_⟩)) (HAL.out 41) ?_
  · intro X hX
    clear hX
    go_simp
  try simp only [Act.put, List.setIfInBounds_toArray, List.set_cons_zero, List.set_cons_succ]
  have CFn : ∀ (args : Array Value) (W : World), Sem.run Try.prog (callFunc 17 args) W = .ok (.enter 17 args) W := fun _ _ => by kernel_rfl
  refine take_G 42 (.bool true) (some 133) GB.grow (by kernel_rfl) rfl (by kernel_rfl) (by kernel_rfl) (by kernel_rfl) rfl (fun _ _ _ h => h) (yieldsG_call 17 #[.slice Au (orL A B l q).length cu, .slice Av (orL A B l q).length cv] (by rfl) ?_ (fun X hS => sameS_calls _ _ _ _ _ X (Ru.out.next hS.2) (Rv.out.next hS.2) Ku.out Ku'.out Kv.out Kv'.out)) (HAL.out 42) ?_
  · intro X hX
    clear hX
    go_simp
  clear CFn
  try simp only [Act.put, List.setIfInBounds_toArray, List.set_cons_zero, List.set_cons_succ]
  refine take_G 43 (.bool false) (some 134) GB.grow (by kernel_rfl) rfl (by kernel_rfl) (by kernel_rfl) (by kernel_rfl) rfl (fun _ _ _ h => h) (YieldsIf.toG (Or.inl ⟨by rfl, ?_⟩)) (HAL.out 43) ?_
  · intro X hX
    clear hX
    go_simp
  try simp only [Act.put, List.setIfInBounds_toArray, List.set_cons_zero, List.set_cons_succ]
  refine take_G 44 (.bool false) (some 135) GB.grow (by kernel_rfl) rfl (by kernel_rfl) (by kernel_rfl) (by kernel_rfl) rfl (fun _ _ _ h => h) (YieldsIf.toG (Or.inl ⟨by rfl, ?_⟩)) (HAL.out 44) ?_
  · intro X hX
    clear hX
    go_simp
  try simp only [Act.put, List.setIfInBounds_toArray, List.set_cons_zero, List.set_cons_succ]
  refine take_G 45 (.bool false) (some 136) GB.grow (by kernel_rfl) rfl (by kernel_rfl) (by kernel_rfl) (by kernel_rfl) rfl (fun _ _ _ h => h) (YieldsIf.toG (Or.inl ⟨by rfl, ?_⟩)) (HAL.out 45) ?_
  · intro X hX
    clear hX
    go_simp
  try simp only [Act.put, List.setIfInBounds_toArray, List.set_cons_zero, List.set_cons_succ]
  refine take_G 46 (.int .i64 (ordE A B l q)) (some 137) GB.grow (by kernel_rfl) rfl (by kernel_rfl) (by kernel_rfl) (by kernel_rfl) rfl (fun _ _ _ h => h) (YieldsIf.toG (Or.inl ⟨by rfl, ?_⟩)) (HAL.out 46) ?_
  · intro X hX
    clear hX
    go_simp
  try simp only [Act.put, List.setIfInBounds_toArray, List.set_cons_zero, List.set_cons_succ]
  refine take_G 47 (.int .i64 (ordE A B l q)) (some 138) GB.grow (by kernel_rfl) rfl (by kernel_rfl) (by kernel_rfl) (by kernel_rfl) rfl (fun _ _ _ h => h) (YieldsIf.toG (Or.inl ⟨by rfl, ?_⟩)) (HAL.out 47) ?_
  · intro X hX
    clear hX
    go_simp
  try simp only [Act.put, List.setIfInBounds_toArray, List.set_cons_zero, List.set_cons_succ]
  refine take_G 48 (.bool false) (some 139) GB.grow (by kernel_rfl) rfl (by kernel_rfl) (by kernel_rfl) (by kernel_rfl) rfl (fun _ _ _ h => h) (YieldsIf.toG (Or.inl ⟨by rfl, ?_⟩)) (HAL.out 48) ?_
  · intro X hX
    clear hX
    go_simp
  try simp only [Act.put, List.setIfInBounds_toArray, List.set_cons_zero, List.set_cons_succ]
  refine take_G 49 (.bool false) (some 140) GB.grow (by kernel_rfl) rfl (by kernel_rfl) (by kernel_rfl) (by kernel_rfl) rfl (fun _ _ _ h => h) (YieldsIf.toG (Or.inl ⟨by rfl, ?_⟩)) (HAL.out 49) ?_
  · intro X hX
    clear hX
    go_simp
  try simp only [Act.put, List.setIfInBounds_toArray, List.set_cons_zero, List.set_cons_succ]
  clear HAL
  refine done_G (by kernel_rfl) (fun X17 hX => ?_) _
  replace NN := Lib.hid (Bgo NN.out hX)
  replace RW := Lib.hid (Rd.next hX RW.out)
  replace Rp := Lib.hid (Rd.next hX Rp.out)
  replace Rr := Lib.hid (Rd.next hX Rr.out)
  replace Rs := Lib.hid (Rd.next hX Rs.out)
  replace Rt := Lib.hid (Rd.next hX Rt.out)
  replace NO := Lib.hid (below_go NO.out hX)
  replace RA := Lib.hid (Rd.next hX RA.out)
  replace Ru := Lib.hid (Rd.next hX Ru.out)
  replace Ou := Lib.hid (OwnR.next Ou.out hX)
  replace Rv := Lib.hid (Rd.next hX Rv.out)
  replace G := Lib.hid (blk_next hX G.out)
  replace V1 := Lib.hid (blk_next hX V1.out)
  replace V2 := Lib.hid (blk_next hX V2.out)
  clear hX
  go_wp2_with fail
  generalize (orL A B l q).length = nO at *
  have kb : nO ≤ 9223372036854775807 := Nat.le_trans Ku.out Ku'.out
  go_loopw [28] (fun i wr => ∃ k : Nat, k ≤ nO ∧ i = .int .i64 k ∧ Hid (Below w14.heap.size w14 wr) ∧ Hid (OwnR w14.heap.size wr Au nO)) (fun i _ => nO - (intOf i).toNat)
  case atStart => exact ⟨0, by omega, rfl, NO, Ou⟩
  case round =>
    clear NO Ou
    obtain ⟨k, hk, rfl, NO, Ou⟩ := hrel
    by_cases hlt : k < nO
    · rcases Ou.out with h0 | ⟨g, xs, rfl, hg, hlen, hblk⟩
      · omega
      have HG := Lib.hid hg
      have BL := Lib.hid hblk
      have HK : Hid (k < xs.length) := Lib.hid (by omega)
      have HLN := Lib.hid hlen
      have kk : k + 1 ≤ nO := hlt
      clear hg hblk hlen Ou
      go_wp2_with ((with_reducible refine (show wpList _ _ _ (Oper.mk none (Op.store 56 _ _) _ _ _ _ :: _) _ _ from ?_)); (refine wpList_store_rec rfl 56 _ _ rfl st5 5 st5_len st5_one g k xs zS HK.out _ rfl rfl rfl 56 BL.out infoSs ?_))
      go_roundw
      case rel => exact ⟨k + 1, kk, by go_num, Lib.hid (below_setRow NO.out HG.out _), Lib.hid (.inr ⟨g, xs.set k zS, rfl, HG.out, by rw [List.length_set]; exact HLN.out, setRow_heap _ g _ _ _ _ BL.out⟩)⟩
      case measure => simp [intOf]; omega
    · obtain rfl : k = nO := by omega
      go_wp2_with fail
      have NF := Lib.hid (NN0.out.trans (NO.out.mono LBO.out))
      refine (sameS_calls _ _ _ _ _ _ (HL.out.next NF.out) (RWO.out.next NO.out) hc hc' HW1.out HW2.out).mono ?_
      rintro e w99 ⟨rfl, hb⟩
      go_wp2_with fail
      go_ret
      exact ⟨rfl, Bgo NF.out hb⟩

set_option maxRecDepth 100000 in
theorem lifted (os : Os) (started : os.Started) (H : Type) (enc : TypeId × Value → H) :
    ReturnsInHanded {} Try.checked os 3 .any (Rows.arrayPlacesSpec.pre6 enc Try.prog Try.f3 Rows.arrayPlacesRow.domain false) (Rows.arrayPlacesSpec.post enc Try.prog Try.f3 false true false false) := by
  refine returnsInHanded_of_change (C := Try.checked) own started (by kernel_rfl) Try.func3
    (ChangeSpec.witness6 (enc := enc) (C := Try.checked) false ⟨#[], #[.agg #[.int .i64 0, .int .i64 0], .slice none 0 0, .int .i64 0, .int .i64 0, .slice none 0 0], []⟩ 8 (by kernel_rfl) (by kernel_rfl) (by kernel_rfl) (by kernel_rfl)) ?_
  intro W base args ds gs before hval0 hW hcnd _
  have hval : ∀ (j : Nat) t v, Try.f3.params[j]? = some t → args[j]? = some v → Value.okWide Try.prog W .any base t v := hval0
  have hW' := hW
  obtain ⟨p, q, hA0, hV, rfl, hfz, hnd⟩ := hW
  have hA : DataW.TrodAll enc Try.prog W 0 (fun _ => true) true Try.f3.params.toList args.toList ds p := hA0
  rw [Try.params3] at hA hval
  obtain ⟨v0, vs0, d0, ds0, p0, q0, hargs, rfl, rfl, h0, r0⟩ := trodAll_cons hA
  obtain ⟨v1, vs1, d1, ds1, p1, q1, rfl, rfl, rfl, h1, r1⟩ := trodAll_cons r0
  obtain ⟨v2, vs2, d2, ds2, p2, q2, rfl, rfl, rfl, h2, r2⟩ := trodAll_cons r1
  obtain ⟨v3, vs3, d3, ds3, p3, q3, rfl, rfl, rfl, h3, r3⟩ := trodAll_cons r2
  obtain ⟨v4, vs4, d4, ds4, p4, q4, rfl, rfl, rfl, h4, r4⟩ := trodAll_cons r3
  obtain ⟨rfl, rfl, rfl⟩ := trodAll_nil r4
  obtain rfl : args = #[v0, v1, v2, v3, v4] := by cases args; simp_all
  obtain ⟨rfl, rfl⟩ := trodVars_none hV
  have k0 := h0
  have lt0 : ∀ x ∈ p0, x.block < W.heap.size := by obtain ⟨m, hm⟩ := k0; exact DataW.trod_lt m _ _ _ hm
  obtain ⟨A, B, rfl⟩ := open_globe (hval 0 23 v0 rfl rfl) h0
  have k1 := h1
  have lt1 : ∀ x ∈ p1, x.block < W.heap.size := by obtain ⟨m, hm⟩ := k1; exact DataW.trod_lt m _ _ _ hm
  obtain ⟨a, l, cap, rfl, hc, hc', hl⟩ := open_sites (hval 1 24 v1 rfl rfl) h1
  have k2 := h2
  have lt2 : ∀ x ∈ p2, x.block < W.heap.size := by obtain ⟨m, hm⟩ := k2; exact DataW.trod_lt m _ _ _ hm
  obtain ⟨i, rfl, _, _, wi⟩ := open_int Try.underlying3 (hval 2 3 v2 rfl rfl) h2
  have k3 := h3
  have lt3 : ∀ x ∈ p3, x.block < W.heap.size := by obtain ⟨m, hm⟩ := k3; exact DataW.trod_lt m _ _ _ hm
  obtain ⟨j, rfl, _, _, wj⟩ := open_int Try.underlying3 (hval 3 3 v3 rfl rfl) h3
  have k4 := h4
  have lt4 : ∀ x ∈ p4, x.block < W.heap.size := by obtain ⟨m, hm⟩ := k4; exact DataW.trod_lt m _ _ _ hm
  obtain ⟨aq, q, cq, rfl, hcq, hcq', hq⟩ := open_order (hval 4 25 v4 rfl rfl) h4
  clear hA0 hval0
  refine (walk A B i j a aq cap cq l q W hc hc' hl hcq hcq' hq).mono fun e W' ⟨he, bel⟩ => ?_
  subst he
  exact ⟨_, rfl, _, _, _, [], _, [], hW', trodAll_mk1 (shut_bool Try.underlying4 _), (trodAll_cons_mk (Below.trod laidOut (by kernel_rfl) (of_decide_eq_true (by kernel_rfl)) k0 bel lt0) (trodAll_cons_mk (Below.trod laidOut (by kernel_rfl) (of_decide_eq_true (by kernel_rfl)) k1 bel lt1) (trodAll_cons_mk (Below.trod laidOut (by kernel_rfl) (of_decide_eq_true (by kernel_rfl)) k2 bel lt2) (trodAll_cons_mk (Below.trod laidOut (by kernel_rfl) (of_decide_eq_true (by kernel_rfl)) k3 bel lt3) (trodAll_cons_mk (Below.trod laidOut (by kernel_rfl) (of_decide_eq_true (by kernel_rfl)) k4 bel lt4) trodAll_mk0))))), rfl, bel.frame _, fun h => by cases h⟩

theorem over : Rows.arrayPlacesRow.holds Try.pinned (OpenSpec.ofChange Rows.arrayPlacesSpec) :=
  OpenClaim.holds_of_wide 3 Try.f3 rfl rfl rfl rfl rfl rfl rfl ⟨rfl, rfl, rfl, rfl, rfl⟩ rfl rfl rfl rfl rfl (by kernel_rfl) Try.func3 (by kernel_rfl)
    (of_decide_eq_true (by kernel_rfl)) (by unfold Func.isWrapper; first | (rw [if_pos (by decide +kernel)]; kernel_rfl) | (rw [if_neg (by decide +kernel)]; exact ⟨rfl, rfl⟩))
    (fun os started H enc _ => lifted os started H enc)

theorem proved : Rows.ArrayPlacesSaid := over
#print axioms proved
end Go.Proofs.Ytfangplfbbgphaa.arrayPlaces
