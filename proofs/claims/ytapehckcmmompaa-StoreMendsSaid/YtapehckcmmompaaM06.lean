/- Several texts in one. -/
import Derived.Test.YtapehckcmmompaaM04
import Derived.Test.YtapehckcmmompaaM05
namespace Go.Proofs.Ytapehckcmmompaa
open Go.ChangeShapes Go.WideShapes Go.ChangeAt Go.RowKit Gf
set_option linter.unusedVariables false
set_option maxRecDepth 100000
attribute [local go_sem ↓] Go.wp_at_zero Go.wp_at_succ
def resE (D M : Int) (m : List (List Nat)) : Int := if chkE D M m = 0 then rstE D.toNat M.toNat m else chkE D M m
def resS (D M : Int) (m : List (List Nat)) : St := if resE D M m = 0 then (D, M, enc (dataL D.toNat M.toNat m) M.toNat) else (0, 0, [])
theorem resS_err {D M : Int} {m : List (List Nat)} {er : Int} (h : resE D M m = er) (h0 : er ≠ 0) : resS D M m = (0, 0, []) := by unfold resS; rw [h, if_neg h0]
set_option maxHeartbeats 1000000 in
theorem restore_calls (D M : Int) (A : Option Addr) (c B : Nat) (m : List (List Nat)) (w : World) (hn : m.length ≤ c) (hc : c ≤ 9223372036854775807) (hs : RMA B w A m) :
  Calls Try.prog 51 #[Sv D M (.slice A m.length c)] w (SEPost w (resS D M m) (resE D M m)) := by
 have HS := Lib.hid hs
 clear hs
 have CC := Lib.hid (fun W (h : RMA B W A m) => check_calls D M A c B m W hn hc h)
 by_cases ck : chkE D M m = 0
 ·obtain ⟨OKS, hD, hM⟩ := chkE_ok ck
  have FE : Hid (resE D M m = rstE D.toNat M.toNat m ∧ resS D M m = rstS D.toNat M.toNat m) := Lib.hid (by
   have e1 : resE D M m = rstE D.toNat M.toNat m := by unfold resE; rw [if_pos ck]
   refine ⟨e1, ?_⟩
   unfold resS rstS
   rw [e1, ← hD, ← hM])
  rw [ck] at CC
  generalize D.toNat = D' at *
  generalize M.toNat = M' at *
  subst hD hM
  have RC := Lib.hid (fun W (h : RMA B W A m) => restored_calls A c B D' M' (szL m) m W hn hc h OKS.q)
  rw [FE.out.1, FE.out.2]
  generalize rstE D' M' m = er at *
  generalize rstS D' M' m = rs at *
  obtain ⟨r1, r2, r3⟩ := rs
  clear ck OKS FE
  go_enter Try.func51, Try.ntmps51
  go_wp2_with fail
  refine (CC.out _ (HS.out.next (Bal (Bal (Below.refl _ _) _) _))).mono ?_
  rintro e w1 ⟨rfl, hb1⟩
  have N1 : Hid (Below w.heap.size w w1) := Lib.hid (Bgo (Bal (Bal (Below.refl _ _) _) _) hb1)
  have SB1 : Hid (w1.heap[w.heap.size]? = some (.cells #[.int .i64 D', .int .i64 M', .slice A m.length c] 54)) := Lib.hid (blk_next hb1 (blk_alloc (blk_new w _) _))
  have X1 : Hid (w1.heap[w.heap.size + 1]? = some (.cells #[.int .i64 0, .int .i64 0, .slice none 0 0] 54)) := Lib.hid (blk_next hb1 (blk_at _ (by simp)))
  have s0 : w1.cell? ⟨w.heap.size, 0, none⟩ = some (.int .i64 D') := blk_cell SB1.out 0 _ rfl
  have s1 : w1.cell? ⟨w.heap.size, 1, none⟩ = some (.int .i64 M') := blk_cell SB1.out 1 _ rfl
  have s2 : w1.cell? ⟨w.heap.size, 2, none⟩ = some (.slice A m.length c) := blk_cell SB1.out 2 _ rfl
  clear hb1
  go_wp2_with fail
  refine (RC.out _ (HS.out.next N1.out)).mono ?_
  rintro e w2 ⟨v, rfl, ⟨us, ho⟩, hb2⟩
  obtain ⟨Av, cv, rfl, hv1, hv2, _⟩ := own_form ho.top
  have X2 := Lib.hid (blk_next hb2 X1.out)
  have N2 := Lib.hid (Bgo N1.out hb2)
  have O2 := Lib.hid (ho.mono (B' := w.heap.size) N1.out.size)
  clear hb2 ho s0 s1 s2
  have x0 : w2.cell? ⟨w.heap.size + 1, 0, none⟩ = some (.int .i64 0) := blk_cell X2.out 0 _ rfl
  have x1 : w2.cell? ⟨w.heap.size + 1, 1, none⟩ = some (.int .i64 0) := blk_cell X2.out 1 _ rfl
  have x2 : w2.cell? ⟨w.heap.size + 1, 2, none⟩ = some (.slice none 0 0) := blk_cell X2.out 2 _ rfl
  have f0 : w2.frozen? ⟨w.heap.size + 1, 0, none⟩ = false := blk_frozen X2.out 0
  have f1 : w2.frozen? ⟨w.heap.size + 1, 1, none⟩ = false := blk_frozen X2.out 1
  have f2 : w2.frozen? ⟨w.heap.size + 1, 2, none⟩ = false := blk_frozen X2.out 2
  go_wp2_with fail
  have Z := blk_set3 X2.out (.int .i64 r1) (.int .i64 r2) (.slice Av r3.length cv)
  have e0 := blk_cell Z 0 _ rfl
  have e1 := blk_cell Z 1 _ rfl
  have e2 := blk_cell Z 2 _ rfl
  refine bodyPost_ret (v := .tuple #[Sv r1 r2 (.slice Av r3.length cv), .int .i64 er]) (by simp [results, Try.results51, go_sem, e0, e1, e2]) rfl ⟨_, rfl, ⟨us, ?_⟩, ?_⟩
  ·exact O2.out.set3_ X2.out _ _ _
  ·exact Bset3 N2.out (by omega) _ _ _
 ·have FE : Hid (resE D M m = chkE D M m) := Lib.hid (by unfold resE; rw [if_neg ck])
  have q : (chkE D M m != 0) = true := by rw [bne_iff_ne]; exact ck
  rw [resS_err FE.out ck, FE.out]
  generalize chkE D M m = er at *
  clear ck FE
  go_enter Try.func51, Try.ntmps51
  go_wp2_with fail
  refine (CC.out _ (HS.out.next (Bal (Bal (Below.refl _ _) _) _))).mono ?_
  rintro e w1 ⟨rfl, hb1⟩
  have N1 : Hid (Below w.heap.size w w1) := Lib.hid (Bgo (Bal (Bal (Below.refl _ _) _) _) hb1)
  have X1 : Hid (w1.heap[w.heap.size + 1]? = some (.cells #[.int .i64 0, .int .i64 0, .slice none 0 0] 54)) := Lib.hid (blk_next hb1 (blk_at _ (by simp)))
  clear hb1
  have x0 : w1.cell? ⟨w.heap.size + 1, 0, none⟩ = some (.int .i64 0) := blk_cell X1.out 0 _ rfl
  have x1 : w1.cell? ⟨w.heap.size + 1, 1, none⟩ = some (.int .i64 0) := blk_cell X1.out 1 _ rfl
  have x2 : w1.cell? ⟨w.heap.size + 1, 2, none⟩ = some (.slice none 0 0) := blk_cell X1.out 2 _ rfl
  have f0 : w1.frozen? ⟨w.heap.size + 1, 0, none⟩ = false := blk_frozen X1.out 0
  have f1 : w1.frozen? ⟨w.heap.size + 1, 1, none⟩ = false := blk_frozen X1.out 1
  have f2 : w1.frozen? ⟨w.heap.size + 1, 2, none⟩ = false := blk_frozen X1.out 2
  go_wp2_with fail
  have Z := blk_set3 X1.out (.int .i64 0) (.int .i64 0) (.slice none 0 0)
  have e0 := blk_cell Z 0 _ rfl
  have e1 := blk_cell Z 1 _ rfl
  have e2 := blk_cell Z 2 _ rfl
  refine bodyPost_ret (v := .tuple #[Sv 0 0 (.slice none 0 0), .int .i64 er]) (by simp [results, Try.results51, go_sem, e0, e1, e2]) rfl (SEPost.none_ ?_)
  exact Bset3 N1.out (by omega) _ _ _
def sndB (D M : Nat) (m : List (List Nat)) : Bool := decide (lostN m = 0) && decide (rstE D M m = 0)
set_option maxHeartbeats 1000000 in
theorem sound_calls (A : Option Addr) (c B D M q : Nat) (m : List (List Nat)) (w : World) (hn : m.length ≤ c) (hc : c ≤ 9223372036854775807) (hs : RMA B w A m) (hok : Okq D M q m) :
  Calls Try.prog 58 #[Sv D M (.slice A m.length c)] w fun e w' => e = .returned (.bool (sndB D M m)) ∧ Below w.heap.size w w' := by
 have HS := Lib.hid hs
 clear hs
 have LC := Lib.hid (fun W (h : RMA B W A m) => lost_calls (D : Int) (M : Int) A c B m W hn hc h)
 have RC := Lib.hid (fun W (h : RMA B W A m) => restored_calls A c B D M q m W hn hc h hok)
 have F : Hid (sndB D M m = (decide (lostN m = 0) && decide (rstE D M m = 0))) := Lib.hid rfl
 generalize sndB D M m = sb at *
 generalize lostN m = z at *
 generalize rstE D M m = er at *
 generalize rstS D M m = rs at *
 obtain ⟨r1, r2, r3⟩ := rs
 clear hok
 by_cases hz : 0 < z
 ·have F2 : Hid (sb = false) := Lib.hid (by rw [F.out, decide_eq_false (by omega)]; rfl)
  go_enter Try.func58, Try.ntmps58
  go_wp2_with fail
  refine (LC.out _ (HS.out.next (Bal (Below.refl _ _) _))).mono ?_
  rintro e w1 ⟨rfl, hb1⟩
  go_wp2_with fail
  go_ret
  exact ⟨ret_bool F2.out.symm, Bgo (Bal (Below.refl _ _) _) hb1⟩
 ·have F2 : Hid (sb = (er == 0)) := Lib.hid (by rw [F.out, decide_eq_true (by omega), Bool.true_and, Bool.eq_iff_iff]; simp)
  go_enter Try.func58, Try.ntmps58
  go_wp2_with fail
  refine (LC.out _ (HS.out.next (Bal (Below.refl _ _) _))).mono ?_
  rintro e w1 ⟨rfl, hb1⟩
  have N1 : Hid (Below w.heap.size w w1) := Lib.hid (Bgo (Bal (Below.refl _ _) _) hb1)
  have SB1 : Hid (w1.heap[w.heap.size]? = some (.cells #[.int .i64 D, .int .i64 M, .slice A m.length c] 54)) := Lib.hid (blk_next hb1 (blk_new w _))
  have s0 : w1.cell? ⟨w.heap.size, 0, none⟩ = some (.int .i64 D) := blk_cell SB1.out 0 _ rfl
  have s1 : w1.cell? ⟨w.heap.size, 1, none⟩ = some (.int .i64 M) := blk_cell SB1.out 1 _ rfl
  have s2 : w1.cell? ⟨w.heap.size, 2, none⟩ = some (.slice A m.length c) := blk_cell SB1.out 2 _ rfl
  clear hb1
  go_wp2_with fail
  refine (RC.out _ (HS.out.next N1.out)).mono ?_
  rintro e w2 ⟨v, rfl, ⟨us, ho⟩, hb2⟩
  obtain ⟨Av, cv, rfl, hv1, hv2, _⟩ := own_form ho.top
  have N2 := Lib.hid (Bgo N1.out hb2)
  clear hb2 ho s0 s1 s2
  go_wp2_with fail
  go_ret
  exact ⟨ret_bool F2.out.symm, Bal N2.out _⟩
def sdB (D M : Int) (m : List (List Nat)) : Bool := decide (chkE D M m = 0) && sndB D.toNat M.toNat m
set_option maxHeartbeats 1000000 in
theorem soundX_calls (D M : Int) (A : Option Addr) (c B : Nat) (m : List (List Nat)) (w : World) (hn : m.length ≤ c) (hc : c ≤ 9223372036854775807) (hs : RMA B w A m) :
  Calls Try.prog 25 #[Sv D M (.slice A m.length c)] w fun e w' => e = .returned (.tuple #[.bool (sdB D M m), .int .i64 (chkE D M m)]) ∧ Below w.heap.size w w' := by
 have HS := Lib.hid hs
 clear hs
 have CC := Lib.hid (fun W (h : RMA B W A m) => check_calls D M A c B m W hn hc h)
 by_cases ck : chkE D M m = 0
 ·obtain ⟨OKS, hD, hM⟩ := chkE_ok ck
  have F : Hid (sdB D M m = sndB D.toNat M.toNat m) := Lib.hid (by unfold sdB; rw [decide_eq_true ck, Bool.true_and])
  have SC := Lib.hid (fun W (h : RMA B W A m) => sound_calls A c B D.toNat M.toNat (szL m) m W hn hc h OKS.q)
  rw [← hD, ← hM] at SC
  rw [F.out, ck]
  rw [ck] at CC
  generalize sndB D.toNat M.toNat m = sb at *
  clear ck OKS hD hM F
  go_enter Try.func25, Try.ntmps25
  go_wp2_with fail
  refine (CC.out _ (HS.out.next (Bal (Below.refl _ _) _))).mono ?_
  rintro e w1 ⟨rfl, hb1⟩
  have N1 : Hid (Below w.heap.size w w1) := Lib.hid (Bgo (Bal (Below.refl _ _) _) hb1)
  have SB1 : Hid (w1.heap[w.heap.size]? = some (.cells #[.int .i64 D, .int .i64 M, .slice A m.length c] 54)) := Lib.hid (blk_next hb1 (blk_new w _))
  have s0 : w1.cell? ⟨w.heap.size, 0, none⟩ = some (.int .i64 D) := blk_cell SB1.out 0 _ rfl
  have s1 : w1.cell? ⟨w.heap.size, 1, none⟩ = some (.int .i64 M) := blk_cell SB1.out 1 _ rfl
  have s2 : w1.cell? ⟨w.heap.size, 2, none⟩ = some (.slice A m.length c) := blk_cell SB1.out 2 _ rfl
  clear hb1
  go_wp2_with fail
  refine (SC.out _ (HS.out.next N1.out)).mono ?_
  rintro e w2 ⟨rfl, hb2⟩
  go_wp2_with fail
  go_ret2
  exact ⟨rfl, Bgo N1.out hb2⟩
 ·have F : Hid (sdB D M m = false) := Lib.hid (by unfold sdB; rw [decide_eq_false ck]; rfl)
  have q : (chkE D M m != 0) = true := by rw [bne_iff_ne]; exact ck
  rw [F.out]
  generalize chkE D M m = er at *
  clear ck F
  go_enter Try.func25, Try.ntmps25
  go_wp2_with fail
  refine (CC.out _ (HS.out.next (Bal (Below.refl _ _) _))).mono ?_
  rintro e w1 ⟨rfl, hb1⟩
  go_wp2_with fail
  go_ret2
  exact ⟨rfl, Bgo (Bal (Below.refl _ _) _) hb1⟩
def oneB (k i : Nat) : Bool := decide (i = k)
def fndTo (D M : Nat) (m : List (List Nat)) : Nat → Nat × Nat
 | 0 => (0, 0)
 | k + 1 => if rstE D M (keepL m (oneB k)) = 0 then (k, (fndTo D M m k).2 + 1) else fndTo D M m k
def fndV (D M : Int) (m : List (List Nat)) : Int × Int :=
 if chkE D M m ≠ 0 then (0, chkE D M m) else if 0 < lostN m then (0, 2) else if sndB D.toNat M.toNat m then (-1, 0)
 else if (fndTo D.toNat M.toNat m m.length).2 ≠ 1 then (0, 6) else ((fndTo D.toNat M.toNat m m.length).1, 0)
theorem find1_calls (x k gb : Nat) (w : World) (h : w.cell? ⟨gb, 0, none⟩ = some (.int .i64 (k : Int))) :
  Calls Try.prog 77 #[.int .i64 (x : Int), .pointer (some ⟨gb, 0, none⟩)] w fun e w' => e = .returned (.bool (oneB k x)) ∧ w = w' := by
 have F : Hid (oneB k x = ((x : Int) == (k : Int))) := Lib.hid (by unfold oneB; rw [Bool.eq_iff_iff]; simp; omega)
 generalize oneB k x = b at *
 go_enter Try.func77, Try.ntmps77
 go_wp2_with fail
 go_ret
 exact ⟨ret_bool F.out.symm, rfl⟩
theorem call_find1 (args : Array Value) (W : World) : Sem.run Try.prog (callFunc 77 args) W = .ok (.enter 77 args) W := by kernel_rfl
theorem Ok.keep {D M : Nat} {m : List (List Nat)} (h : Ok D M m) (p : Nat → Bool) : Okq D M (szL m) (keepL m p) :=
 ⟨h.d1, h.d8, h.m4, by rw [keepL_len]; exact h.len, h.s1, h.s64, fun l hl => by
  simp only [keepL, List.mem_map, List.mem_range] at hl
  obtain ⟨i, hi, rfl⟩ := hl
  split
  ·exact .inl rfl
  ·obtain ⟨z, hz⟩ := get_some hi
   rw [getD_of hz]; exact h.each z (List.mem_of_getElem? hz)⟩
end Go.Proofs.Ytapehckcmmompaa
namespace Go.Proofs.Ytapehckcmmompaa
open Go.ChangeShapes Go.WideShapes Go.ChangeAt Go.RowKit Gf
set_option linter.unusedVariables false
set_option maxRecDepth 100000
set_option linter.unusedSimpArgs false
attribute [local go_sem ↓] Go.wp_at_zero Go.wp_at_succ
def rsB (D M : Nat) (m : List (List Nat)) : Bool := decide (lostN m = 0) && decide (enc (m.take D) M = m)
theorem lost_none {m : List (List Nat)} (h : lostN m = 0) : ∀ l ∈ m, l.length ≠ 0 := by
 induction m with
 | nil => intro l hl; cases hl
 | cons x m ih =>
  simp only [lostN] at h
  intro l hl
  rcases List.mem_cons.1 hl with rfl | hl
  ·intro e; rw [if_pos e] at h; omega
  ·exact ih (by omega) l hl
theorem dataL_whole {D M : Nat} {m : List (List Nat)} (h : lostN m = 0) (hD : D ≤ m.length) : dataL D M m = m.take D := by
 apply List.ext_getElem?
 intro i
 by_cases hi : i < D
 ·obtain ⟨l, hl⟩ := get_some (show i < m.length by omega)
  rw [dataL_at hi, getD_of hl, if_neg (lost_none h l (List.mem_of_getElem? hl)), List.getElem?_take, if_pos hi, hl]
 ·rw [List.getElem?_eq_none (by rw [dataL_len]; omega), List.getElem?_eq_none (by rw [List.length_take]; omega)]
theorem fitB_whole {m r : List (List Nat)} (h : lostN m = 0) (hl : m.length = r.length) : fitB m r = decide (r = m) := by
 by_cases e : r = m
 ·rw [decide_eq_true e, fitB_true hl (fun j l l' h1 h2 => .inr (by rw [e, h1] at h2; injection h2))]
 ·rw [decide_eq_false e]
  cases hf : fitB m r with
  | false => rfl
  | true =>
   refine absurd (List.ext_getElem? fun i => ?_) e
   by_cases hi : i < m.length
   ·obtain ⟨l, h1⟩ := get_some hi
    obtain ⟨l', h2⟩ := get_some (show i < r.length by omega)
    rcases fitB_out hf h1 h2 with h3 | h3
    ·exact absurd h3 (lost_none h l (List.mem_of_getElem? h1))
    ·rw [h1, h2, h3]
   ·rw [List.getElem?_eq_none (by omega), List.getElem?_eq_none (by omega)]
theorem sndB_eq {D M : Nat} {m : List (List Nat)} (h : Ok D M m) : sndB D M m = rsB D M m := by
 unfold sndB rsB
 by_cases hz : lostN m = 0
 ·have hl := h.len
  rw [decide_eq_true hz, Bool.true_and, Bool.true_and]
  unfold rstE
  rw [if_neg (by omega), dataL_whole hz (by omega), fitB_whole hz (by rw [enc_len, List.length_take]; omega)]
  by_cases e : enc (m.take D) M = m
  ·rw [decide_eq_true e, if_pos rfl]; rfl
  ·rw [decide_eq_false e, if_neg (by decide)]; rfl
 ·rw [decide_eq_false hz, Bool.false_and, Bool.false_and]
theorem RMA.take_ {B : Nat} {w : World} {A : Option Addr} {m : List (List Nat)} (h : RMA B w A m) (k : Nat) : RMA B w A (m.take k) := by
 obtain ⟨us, h1, h2, h3⟩ := h
 refine ⟨us.take k, by rw [List.length_take, List.length_take, h1], h2.take_ k, fun i u l hu hl => ?_⟩
 rw [List.getElem?_take] at hu hl
 split at hu
 ·rename_i hi
  rw [if_pos hi] at hl
  exact h3 i u l hu hl
 ·cases hu
theorem skip_op {P : Program} {ops : Array Oper} {Q : Exit → Act → World → Prop} {md : Region.Mode} {S : World → Prop} {oi : Oper} {fuel : Nat} {listed : Array Bool} {a : Act} {w : World} (i : Nat) (hi : ops[i]? = some oi)
  (hs : Region.noSelect ops = true) (hf : Region.free md ops listed i = true) (hr : (Region.ready md ops listed).contains i = true) (hw : Region.wanted oi (yielded ops a.tmps) = false) (ha : a.put oi.dst undef = a)
  (hQ : ∀ c a w, Q (.panic c) (a.put oi.dst undef) w → Q (.panic c) a w) (hS : S w) (h : wpAnyH P md ops Q S fuel (listed.setIfInBounds i true) a w) : wpAnyH P md ops Q S (fuel + 1) listed a w :=
 wpAnyH_take hi hs hf hr hQ (Or.inr ⟨hw, rfl⟩) hS (by rw [ha]; exact h)
theorem take_op {P : Program} {ops : Array Oper} {Q : Exit → Act → World → Prop} {md : Region.Mode} {S : World → Prop} {oi : Oper} {fuel : Nat} {listed : Array Bool} {a : Act} {w : World} (i : Nat) (v : Value) (d : Option Nat) (hi : ops[i]? = some oi)
  (hs : Region.noSelect ops = true) (hf : Region.free md ops listed i = true) (hr : (Region.ready md ops listed).contains i = true) (hd : oi.dst = d)
  (hQ : ∀ c a w, Q (.panic c) (a.put oi.dst v) w → Q (.panic c) a w) (hy : YieldsIf P ops S oi v a) (hS : S w) (h : wpAnyH P md ops Q S fuel (listed.setIfInBounds i true) (a.put d v) w) : wpAnyH P md ops Q S (fuel + 1) listed a w :=
 wpAnyH_take hi hs hf hr hQ hy hS (by rw [hd]; exact h)
set_option maxHeartbeats 2000000 in
theorem refSnd_calls (A : Option Addr) (c B D M : Nat) (m : List (List Nat)) (w : World) (hn : m.length ≤ c) (hc : c ≤ 9223372036854775807) (hs : RMA B w A m) (hok : Ok D M m) :
  Calls Try.prog 80 #[Sv D M (.slice A m.length c)] w fun e w' => e = .returned (.bool (rsB D M m)) ∧ Below w.heap.size w w' := by
 have HS := Lib.hid hs
 have hl := hok.len
 have h12 : m.length ≤ 12 := by have := hok.d8; have := hok.m4; omega
 have WC := Lib.hid (fun W (h : RMA B W A m) => refWhole_calls D M A c B m W hn hc (by omega) h)
 have F : Hid (rsB D M m = (decide (lostN m = 0) && decide (enc (m.take D) M = m))) := Lib.hid rfl
 have D1 := hok.d1
 by_cases hz : lostN m = 0
 ·have LT : Hid (∀ l ∈ m.take D, l.length = szL m) := Lib.hid (fun l hl' => by
   have hm := List.mem_of_mem_take hl'
   rcases hok.each l hm with h | h
   ·exact absurd h (lost_none hz l hm)
   ·exact h)
  have LD : (m.take D).length = D := by rw [List.length_take]; omega
  have MC : Hid (∀ W : World, RMA B W A m → Calls Try.prog 65 #[.slice A D c, .int .i64 M] W (fun e w' => ∃ v, e = .returned (Sv D M v) ∧ OM W.heap.size w' v (enc (m.take D) M) ∧ Below W.heap.size W w')) := Lib.hid (fun W h => by
   have := refMade_calls A c B (m.take D) M (szL m) W (by omega) hc (h.take_ D) (by omega) (by have := hok.d8; omega) hok.m4 hok.s64 LT.out
   unfold EncPost at this
   rw [LD] at this
   exact this)
  have EL : Hid ((enc (m.take D) M).length = m.length) := Lib.hid (by rw [enc_len, LD]; omega)
  have SC : Hid (∀ (W : World) (A' : Option Addr) (c' : Nat), m.length ≤ c' → c' ≤ 9223372036854775807 → RMA 0 W A' (enc (m.take D) M) → RMA B W A m → Calls Try.prog 87 #[Sv D M (.slice A' m.length c'), Sv D M (.slice A m.length c)] W fun e w' => e = .returned (.bool (rsB D M m)) ∧ Below W.heap.size W w') := Lib.hid (fun W A' c' h1 h2 h3 h4 => by
   have := refSame_calls D M A' c' 0 (enc (m.take D) M) D M A c B m W (by rw [EL.out]; exact h1) h2 h3 hn hc h4
   rw [EL.out] at this
   have e : decide (((D : Int), (M : Int), enc (m.take D) M) = ((D : Int), (M : Int), m)) = rsB D M m := by
    rw [F.out, decide_eq_true hz, Bool.true_and, Bool.eq_iff_iff]
    simp only [decide_eq_true_eq, Prod.mk.injEq, true_and]
   rw [e] at this
   exact this)
  rw [decide_eq_true hz] at WC
  obtain ⟨l0, hl0⟩ := get_some (show 0 < m.length by omega)
  obtain ⟨bb, off, _, _, rfl, _, _, _, _, _⟩ := hs.at_ hl0
  generalize rsB D M m = sb at *
  generalize enc (m.take D) M = en at *
  have hDc : D ≤ c := by omega
  clear hz hs hok LT F LD hl0 hl
  go_enter Try.func80, Try.ntmps80
  go_upto_region 1 with fail
  have KEEP : Hid (∀ X : World, Below (w.alloc (.cells #[.int .i64 D, .int .i64 M, .slice (some ⟨bb, off, none⟩) m.length c] 54)).heap.size (w.alloc (.cells #[.int .i64 D, .int .i64 M, .slice (some ⟨bb, off, none⟩) m.length c] 54)) X → X.cell? ⟨w.heap.size, 0, none⟩ = some (.int .i64 D) ∧ X.cell? ⟨w.heap.size, 1, none⟩ = some (.int .i64 M) ∧ X.cell? ⟨w.heap.size, 2, none⟩ = some (.slice (some ⟨bb, off, none⟩) m.length c)) := Lib.hid (fun X hX => box3 (blk_next hX (blk_new w _)))
  have RSX : Hid (∀ X : World, Below (w.alloc (.cells #[.int .i64 D, .int .i64 M, .slice (some ⟨bb, off, none⟩) m.length c] 54)).heap.size (w.alloc (.cells #[.int .i64 D, .int .i64 M, .slice (some ⟨bb, off, none⟩) m.length c] 54)) X → RMA B X (some ⟨bb, off, none⟩) m ∧ Below w.heap.size w X) := Lib.hid (fun X hX => ⟨HS.out.next (Bgo (Bal (Below.refl _ _) _) hX), Bgo (Bal (Below.refl _ _) _) hX⟩)
  generalize w.alloc (.cells #[.int .i64 D, .int .i64 M, .slice (some ⟨bb, off, none⟩) m.length c] 54) = W0 at *
  obtain ⟨k1, k2, k3⟩ := KEEP.out W0 (Below.refl _ _)
  go_region_held3 (fun X => X.cell? ⟨w.heap.size, 0, none⟩ = some (.int .i64 D) ∧ X.cell? ⟨w.heap.size, 1, none⟩ = some (.int .i64 M) ∧ X.cell? ⟨w.heap.size, 2, none⟩ = some (.slice (some ⟨bb, off, none⟩) m.length c))
   (first | (with_reducible exact KEEP.out _ BS.out) | (with_reducible exact KEEP.out _ BM.out) | (with_reducible exact KEEP.out _ BW.out) | (with_reducible exact KEEP.out _ (Below.refl _ _)) | (with_reducible exact KEEP.out _ BS.out.drew) | (with_reducible exact KEEP.out _ BM.out.drew) | (with_reducible exact KEEP.out _ BW.out.drew) | (with_reducible exact KEEP.out _ (Below.refl _ _).drew))
   (first
    | (go_at_call 79; refine (WC.out _ ?_).mono ?_; (first | (with_reducible exact (RSX.out _ (Below.refl _ _)).1) | (with_reducible exact (RSX.out _ (Below.refl _ _).drew).1)); rintro e ww ⟨rfl, bw⟩; have BW : Hid (Below W0.heap.size W0 ww) := Lib.hid (by first | (with_reducible exact bw) | (with_reducible exact undrewB bw)); clear bw)
    | (go_at_call 65; refine (MC.out _ ?_).mono ?_; (first | (with_reducible exact (RSX.out _ BW.out).1) | (with_reducible exact (RSX.out _ BW.out.drew).1)); rintro e wm ⟨vm, rfl, ⟨um, om⟩, bm⟩; obtain ⟨Am, cm, rfl, hm1, hm2, _⟩ := own_form om.top; rw [EL.out] at hm1; rw [EL.out]; have BM : Hid (Below W0.heap.size W0 wm) := Lib.hid (by first | (with_reducible exact Bgo BW.out bm) | (with_reducible exact Bgo BW.out (undrewB bm))); have OM_ := Lib.hid (om.rma.mono (B' := 0) (by omega)); clear bm om)
    | (go_at_call 87; refine (SC.out _ Am cm hm1 hm2 ?_ ?_).mono ?_; (first | (with_reducible exact OM_.out) | (with_reducible exact OM_.out.next (Below.refl _ _).drew)); (first | (with_reducible exact (RSX.out _ BM.out).1) | (with_reducible exact (RSX.out _ BM.out.drew).1)); rintro e ws ⟨rfl, bs⟩; have BS : Hid (Below W0.heap.size W0 ws) := Lib.hid (by first | (with_reducible exact Bgo BM.out bs) | (with_reducible exact Bgo BM.out (undrewB bs))); clear bs))
  go_wp2_with fail
  go_ret
  exact ⟨rfl, (RSX.out _ BS.out).2⟩
 ·rw [decide_eq_false hz] at WC
  rw [F.out, decide_eq_false hz, Bool.false_and]
  clear hz F hok hl h12 D1
  go_enter Try.func80, Try.ntmps80
  go_upto_region 1 with fail
  have KEEP : Hid (∀ X : World, Below (w.alloc (.cells #[.int .i64 D, .int .i64 M, .slice A m.length c] 54)).heap.size (w.alloc (.cells #[.int .i64 D, .int .i64 M, .slice A m.length c] 54)) X → X.cell? ⟨w.heap.size, 0, none⟩ = some (.int .i64 D) ∧ X.cell? ⟨w.heap.size, 1, none⟩ = some (.int .i64 M) ∧ X.cell? ⟨w.heap.size, 2, none⟩ = some (.slice A m.length c)) := Lib.hid (fun X hX => box3 (blk_next hX (blk_new w _)))
  have RSX : Hid (∀ X : World, Below (w.alloc (.cells #[.int .i64 D, .int .i64 M, .slice A m.length c] 54)).heap.size (w.alloc (.cells #[.int .i64 D, .int .i64 M, .slice A m.length c] 54)) X → RMA B X A m ∧ Below w.heap.size w X) := Lib.hid (fun X hX => ⟨HS.out.next (Bgo (Bal (Below.refl _ _) _) hX), Bgo (Bal (Below.refl _ _) _) hX⟩)
  generalize w.alloc (.cells #[.int .i64 D, .int .i64 M, .slice A m.length c] 54) = W0 at *
  obtain ⟨k1, k2, k3⟩ := KEEP.out W0 (Below.refl _ _)
  refine wp_region_held_drew (S := (fun X => X.cell? ⟨w.heap.size, 0, none⟩ = some (.int .i64 D) ∧ X.cell? ⟨w.heap.size, 1, none⟩ = some (.int .i64 M) ∧ X.cell? ⟨w.heap.size, 2, none⟩ = some (.slice A m.length c))) (by kernel_rfl) (KEEP.out _ (Below.refl _ _).drew) (fun hHeld => ?_)
  refine take_op 0 (Sv D M (.slice A m.length c)) (some 3) rfl (by kernel_rfl) (by kernel_rfl) (by kernel_rfl) rfl (fun _ _ _ h => h) (Or.inl ⟨by rfl, ?_⟩) hHeld ?_
  ·intro X hX
   obtain ⟨x1, x2, x3⟩ := hX
   go_simp
  try simp only [Act.put, zA, zB, zC]
  refine wpAnyH_ready (rs := [1]) (by kernel_rfl) (by simp) (AllReadyH.cons rfl (fun K hK => ?_) AllReadyH.nil)
  go_simp
  refine (WC.out _ ?_).mono ?_
  ·with_reducible exact (RSX.out _ (Below.refl _ _).drew).1
  rintro e ww ⟨rfl, bw⟩
  have BW : Hid (Below W0.heap.size W0 ww) := Lib.hid (undrewB bw)
  clear bw
  refine hK.out _ _ ?_ (fun hH => ?_)
  ·with_reducible exact KEEP.out _ BW.out
  clear hK K hHeld
  try simp only [Act.put, zA, zB, zC]
  refine take_op 2 (.bool false) (some 5) rfl (by kernel_rfl) (by kernel_rfl) (by kernel_rfl) rfl (fun _ _ _ h => h) (Or.inl ⟨by rfl, ?_⟩) hH ?_
  ·intro X hX
   go_simp
  try simp only [Act.put, zA, zB, zC]
  refine skip_op 3 rfl (by kernel_rfl) (by kernel_rfl) (by kernel_rfl) (by rfl) (by rfl) (fun _ _ _ h => h) hH ?_
  refine skip_op 4 rfl (by kernel_rfl) (by kernel_rfl) (by kernel_rfl) (by rfl) (by rfl) (fun _ _ _ h => h) hH ?_
  refine skip_op 5 rfl (by kernel_rfl) (by kernel_rfl) (by kernel_rfl) (by rfl) (by rfl) (fun _ _ _ h => h) hH ?_
  refine skip_op 6 rfl (by kernel_rfl) (by kernel_rfl) (by kernel_rfl) (by rfl) (by rfl) (fun _ _ _ h => h) hH ?_
  refine skip_op 7 rfl (by kernel_rfl) (by kernel_rfl) (by kernel_rfl) (by rfl) (by rfl) (fun _ _ _ h => h) hH ?_
  refine skip_op 8 rfl (by kernel_rfl) (by kernel_rfl) (by kernel_rfl) (by rfl) (by rfl) (fun _ _ _ h => h) hH ?_
  refine skip_op 9 rfl (by kernel_rfl) (by kernel_rfl) (by kernel_rfl) (by rfl) (by rfl) (fun _ _ _ h => h) hH ?_
  refine skip_op 10 rfl (by kernel_rfl) (by kernel_rfl) (by kernel_rfl) (by rfl) (by rfl) (fun _ _ _ h => h) hH ?_
  refine skip_op 11 rfl (by kernel_rfl) (by kernel_rfl) (by kernel_rfl) (by rfl) (by rfl) (fun _ _ _ h => h) hH ?_
  refine skip_op 12 rfl (by kernel_rfl) (by kernel_rfl) (by kernel_rfl) (by rfl) (by rfl) (fun _ _ _ h => h) hH ?_
  refine take_op 13 (.bool false) (some 16) rfl (by kernel_rfl) (by kernel_rfl) (by kernel_rfl) rfl (fun _ _ _ h => h) (Or.inl ⟨by rfl, ?_⟩) hH ?_
  ·intro X hX
   go_simp
  try simp only [Act.put, zA, zB, zC]
  refine take_op 14 (.bool false) (some 2) rfl (by kernel_rfl) (by kernel_rfl) (by kernel_rfl) rfl (fun _ _ _ h => h) (Or.inl ⟨by rfl, ?_⟩) hH ?_
  ·intro X hX
   go_simp
  try simp only [Act.put, zA, zB, zC]
  refine wpAnyH_done (by kernel_rfl) ?_ _
  go_wp2_with fail
  go_ret
  exact ⟨rfl, (RSX.out _ BW.out).2⟩
end Go.Proofs.Ytapehckcmmompaa
namespace Go.Proofs.Ytapehckcmmompaa
open Gf
set_option linter.unusedVariables false
set_option maxRecDepth 100000
def sumN (f : Nat → Nat) : Nat → Nat
 | 0 => 0
 | n + 1 => sumN f n ^^^ f n
theorem sumN_congr {f g : Nat → Nat} : ∀ {n : Nat}, (∀ k, k < n → f k = g k) → sumN f n = sumN g n
 | 0, _ => rfl
 | n + 1, h => by simp only [sumN]; rw [sumN_congr (fun k hk => h k (by omega)), h n (by omega)]
theorem sumN_xor (f g : Nat → Nat) (n : Nat) : sumN (fun k => f k ^^^ g k) n = sumN f n ^^^ sumN g n := by
 induction n with
 | zero => simp [sumN]
 | succ n ih => simp only [sumN]; rw [ih]; ac_rfl
theorem sumN_gm (c : Nat) (f : Nat → Nat) (n : Nat) : sumN (fun k => gm c (f k)) n = gm c (sumN f n) := by
 induction n with
 | zero => simp [sumN, gm_zero_right]
 | succ n ih => simp only [sumN]; rw [ih, gm_xor_right]
theorem sumN_zero {f : Nat → Nat} {n : Nat} (h : ∀ k, k < n → f k = 0) : sumN f n = 0 := by
 induction n with
 | zero => rfl
 | succ n ih => simp only [sumN]; rw [ih (fun k hk => h k (by omega)), h n (by omega)]; rfl
theorem sumN_one {f : Nat → Nat} {n i : Nat} (hi : i < n) (h : ∀ k, k < n → k ≠ i → f k = 0) : sumN f n = f i := by
 induction n with
 | zero => omega
 | succ n ih =>
  simp only [sumN]
  by_cases e : i = n
  ·subst e
   rw [sumN_zero (fun k hk => h k (by omega) (by omega)), Nat.zero_xor]
  ·rw [ih (by omega) (fun k hk hne => h k (by omega) hne), h n (by omega) (fun e' => e e'.symm), Nat.xor_zero]
theorem sumN_lt {f : Nat → Nat} {n : Nat} (h : ∀ k, k < n → f k < 256) : sumN f n < 256 := by
 induction n with
 | zero => simp [sumN]
 | succ n ih => exact xor_lt (ih fun k hk => h k (by omega)) (h n (by omega))
theorem xor_xor_self (a b : Nat) : a ^^^ (a ^^^ b) = b := by rw [← Nat.xor_assoc, Nat.xor_self, Nat.zero_xor]
theorem addR_getD {s b : List Nat} {f t : Nat} (h : t < s.length) : (addR s b f).getD t 0 = s.getD t 0 ^^^ gm f (b.getD t 0) := by
 simp only [addR, List.getD_eq_getElem?_getD, List.getElem?_map, List.getElem?_range h, Option.map_some, Option.getD_some]
theorem scaleR_getD (f : Nat) (l : List Nat) (t : Nat) : (scaleR f l).getD t 0 = gm f (l.getD t 0) := by
 simp only [scaleR, List.getD_eq_getElem?_getD, List.getElem?_map]
 cases l[t]? with
 | none => simp [gm_zero_right]
 | some x => rfl
theorem Byt.getD_ {l : List Nat} (h : Byt l) (t : Nat) : l.getD t 0 < 256 := by
 rw [List.getD_eq_getElem?_getD]
 cases e : l[t]? with
 | none => simp
 | some x => exact h.at_ e
theorem rows_getD {p : List Nat → Prop} {m : List (List Nat)} (h : ∀ l ∈ m, p l) (h0 : p []) (i : Nat) : p (m.getD i []) := by
 rw [List.getD_eq_getElem?_getD]
 cases e : m[i]? with
 | none => exact h0
 | some x => exact h x (List.mem_of_getElem? e)
theorem elim_getD {M L : List (List Nat)} {p r i : Nat} (hi : i < L.length) : (elim M L p r).getD i [] = if i = p then scaleR (pivF M p) (L.getD p []) else if i < r then addR (L.getD i []) (scaleR (pivF M p) (L.getD p [])) ((M.getD i []).getD p 0) else L.getD i [] :=
 getD_of (elim_at hi)
theorem pivF_lt {M : List (List Nat)} (h : ∀ l ∈ M, Byt l) (p : Nat) : pivF M p < 256 := gi_lt (Byt.getD_ (rows_getD h Byt.nil p) p)
theorem elim_byt {M L : List (List Nat)} {p r : Nat} (hM : ∀ l ∈ M, Byt l) (hL : ∀ l ∈ L, Byt l) : ∀ l ∈ elim M L p r, Byt l := fun l hl => by
 simp only [elim, List.mem_map, List.mem_range] at hl
 obtain ⟨i, hi, rfl⟩ := hl
 split
 ·exact scaleR_byt _ (pivF_lt hM p)
 ·split
  ·exact addR_byt (rows_getD hL Byt.nil i) (Byt.getD_ (rows_getD hM Byt.nil i) p)
  ·exact rows_getD hL Byt.nil i
theorem gjTo_byt {M R : List (List Nat)} (hM : ∀ l ∈ M, Byt l) : ∀ p, ∀ l ∈ (gjTo M R p).1, Byt l
 | 0 => hM
 | p + 1 => elim_byt (gjTo_byt hM p) (gjTo_byt hM p)
theorem gjTo_bytR {M R : List (List Nat)} (hM : ∀ l ∈ M, Byt l) (hR : ∀ l ∈ R, Byt l) : ∀ p, ∀ l ∈ (gjTo M R p).2, Byt l
 | 0 => hR
 | p + 1 => elim_byt (gjTo_byt hM p) (gjTo_bytR hM hR p)
theorem gjTo_fst (M R R' : List (List Nat)) : ∀ p, (gjTo M R p).1 = (gjTo M R' p).1
 | 0 => rfl
 | p + 1 => by simp only [gjTo]; rw [gjTo_fst M R R' p]
def Sol (M R : List (List Nat)) (x : Nat → Nat) (t n : Nat) : Prop := ∀ i, i < n → sumN (fun k => gm ((M.getD i []).getD k 0) (x k)) n = (R.getD i []).getD t 0
theorem dot_scale {r : List Nat} {x : Nat → Nat} {f n : Nat} (hf : f < 256) (hr : Byt r) (hx : ∀ k, x k < 256) : sumN (fun k => gm ((scaleR f r).getD k 0) (x k)) n = gm f (sumN (fun k => gm (r.getD k 0) (x k)) n) := by
 rw [← sumN_gm]
 exact sumN_congr fun k hk => by rw [scaleR_getD, gm_assoc hf (hr.getD_ k) (hx k)]
theorem dot_add {r s : List Nat} {x : Nat → Nat} {f n : Nat} (hf : f < 256) (hr : Byt r) (hs : Byt s) (hx : ∀ k, x k < 256) (hn : n ≤ r.length) : sumN (fun k => gm ((addR r s f).getD k 0) (x k)) n = sumN (fun k => gm (r.getD k 0) (x k)) n ^^^ gm f (sumN (fun k => gm (s.getD k 0) (x k)) n) := by
 rw [← sumN_gm, ← sumN_xor]
 exact sumN_congr fun k hk => by rw [addR_getD (by omega), gm_xor_left _ (hr.getD_ k) (gm_lt hf), gm_assoc hf (hs.getD_ k) (hx k)]
theorem len_getD {m : List (List Nat)} {q i : Nat} (h : ∀ l ∈ m, l.length = q) (hi : i < m.length) : (m.getD i []).length = q := by
 obtain ⟨l, hl⟩ := get_some hi
 rw [getD_of hl]; exact h l (List.mem_of_getElem? hl)
theorem elim_sol {M R : List (List Nat)} {x : Nat → Nat} {t n q p : Nat} (hM : M.length = n) (hR : R.length = n) (rM : ∀ l ∈ M, l.length = n) (rR : ∀ l ∈ R, l.length = q) (bM : ∀ l ∈ M, Byt l) (hx : ∀ k, x k < 256) (ht : t < q) (hp : p < n) (h : Sol M R x t n) :
  Sol (elim M M p n) (elim M R p n) x t n := fun i hi => by
 have B := fun i => rows_getD bM Byt.nil i
 rw [elim_getD (by omega), elim_getD (by omega)]
 by_cases e : i = p
 ·rw [if_pos e, if_pos e, dot_scale (pivF_lt bM p) (B p) hx, h p hp, scaleR_getD]
 ·rw [if_neg e, if_neg e, if_pos hi, if_pos hi, dot_add ((B i).getD_ p) (B i) (scaleR_byt _ (pivF_lt bM p)) hx (by rw [len_getD rM (by omega)]; exact Nat.le_refl _), dot_scale (pivF_lt bM p) (B p) hx, h i hi, h p hp,
   addR_getD (by rw [len_getD rR (by omega)]; exact ht), scaleR_getD]
theorem gjTo_sol {M R : List (List Nat)} {x : Nat → Nat} {t n q : Nat} (hM : M.length = n) (hR : R.length = n) (rM : ∀ l ∈ M, l.length = n) (rR : ∀ l ∈ R, l.length = q) (bM : ∀ l ∈ M, Byt l) (hx : ∀ k, x k < 256) (ht : t < q) (h : Sol M R x t n) :
  ∀ p, p ≤ n → Sol (gjTo M R p).1 (gjTo M R p).2 x t n
 | 0, _ => h
 | p + 1, hp => by
  have gl := gjTo_len M R p
  have gr := gjTo_rows rM rR (by omega) p (by omega)
  simp only [gjTo]
  rw [hM]
  exact elim_sol (by rw [gl.1, hM]) (by rw [gl.2, hR]) gr.1 gr.2 (gjTo_byt bM p) hx ht (by omega) (gjTo_sol hM hR rM rR bM hx ht h p (by omega))
def unitM (n : Nat) : List (List Nat) := (List.range n).map fun i => (List.range n).map fun k => if k = i then 1 else 0
theorem unit_getD {n i k : Nat} (hi : i < n) (hk : k < n) : ((unitM n).getD i []).getD k 0 = if k = i then 1 else 0 := by
 have : (unitM n)[i]? = some ((List.range n).map fun k => if k = i then 1 else 0) := by simp [unitM, hi]
 rw [getD_of this]
 simp [List.getD_eq_getElem?_getD, hk]
theorem sol_unit {R : List (List Nat)} {x : Nat → Nat} {t n i : Nat} (hx : ∀ k, x k < 256) (h : Sol (unitM n) R x t n) (hi : i < n) : (R.getD i []).getD t 0 = x i := by
 rw [← h i hi, sumN_one hi (fun k hk hne => by rw [unit_getD hi hk, if_neg hne, gm_zero_left]), unit_getD hi hi, if_pos rfl, gm_one_left (hx i)]
def subs : Nat → Nat → List (List Nat)
 | _, 0 => [[]]
 | 0, _ + 1 => []
 | n + 1, g + 1 => subs n (g + 1) ++ (subs n g).map (· ++ [n])
theorem subs_more {n g : Nat} {l : List Nat} (h : l ∈ subs n g) : l ∈ subs (n + 1) g := by
 cases g with
 | zero => simpa [subs] using h
 | succ g => rw [subs]; exact List.mem_append_left _ h
theorem subs_snoc {n g : Nat} {l : List Nat} (h : l ∈ subs n g) : l ++ [n] ∈ subs (n + 1) (g + 1) := by
 rw [subs]; exact List.mem_append_right _ (List.mem_map.2 ⟨l, h, rfl⟩)
theorem lostL_subs (m : List (List Nat)) : ∀ n, lostL m n ∈ subs n (lostL m n).length
 | 0 => by simp [lostL, subs]
 | n + 1 => by
  rw [lostL_more]
  split
  ·rw [List.length_append]; exact subs_snoc (lostL_subs m n)
  ·rw [List.append_nil]; exact subs_more (lostL_subs m n)
theorem choTo_subs (D : Nat) (m : List (List Nat)) (g : Nat) : ∀ k, choTo D m g k ∈ subs k (choTo D m g k).length
 | 0 => by simp [choTo, subs]
 | k + 1 => by
  rw [choTo]
  split
  ·rw [List.length_append]; exact subs_snoc (choTo_subs D m g k)
  ·exact subs_more (choTo_subs D m g k)
theorem subs_le {g : Nat} {l : List Nat} : ∀ {n k : Nat}, l ∈ subs n g → n ≤ k → l ∈ subs k g
 | n, 0, h, hk => by rw [Nat.le_zero.1 hk] at h; exact h
 | n, k + 1, h, hk => by
  by_cases e : n = k + 1
  ·rw [← e]; exact h
  ·exact subs_more (subs_le h (by omega))
def fN (x : Nat) (k : Nat → Bool) : Bool := match x with | 0 => k 0 | n + 1 => k (n + 1)
def fL : List Nat → (List Nat → Bool) → Bool
 | [], k => k []
 | x :: xs, k => fN x fun x' => fL xs fun xs' => k (x' :: xs')
def fM : List (List Nat) → (List (List Nat) → Bool) → Bool
 | [], k => k []
 | x :: xs, k => fL x fun x' => fM xs fun xs' => k (x' :: xs')
theorem fN_eq (x : Nat) (k : Nat → Bool) : fN x k = k x := by cases x <;> rfl
theorem fL_eq : ∀ (l : List Nat) (k : List Nat → Bool), fL l k = k l
 | [], k => rfl
 | x :: xs, k => by rw [fL, fN_eq, fL_eq xs]
theorem fM_eq : ∀ (l : List (List Nat)) (k : List (List Nat) → Bool), fM l k = k l
 | [], k => rfl
 | x :: xs, k => by rw [fM, fL_eq, fM_eq xs]
def chk (n : Nat) : Nat → Nat → List (List Nat) → Bool
 | 0, _, M => decide (M = unitM n)
 | r + 1, p, M => !((M.getD p []).getD p 0 == 0) && fM (elim M M p n) (chk n r (p + 1))
theorem chk_out {M : List (List Nat)} {n : Nat} (hM : M.length = n) : ∀ {r p : Nat}, p + r = n → chk n r p (gjTo M [] p).1 = true → (gjTo M [] n).1 = unitM n ∧ ∀ k, p ≤ k → k < n → ((gjTo M [] k).1.getD k []).getD k 0 ≠ 0
 | 0, p, hp, h => by
  have e : p = n := by omega
  subst e
  simp only [chk, decide_eq_true_eq] at h
  exact ⟨h, fun k h1 h2 => by omega⟩
 | r + 1, p, hp, h => by
  rw [chk, Bool.and_eq_true, fM_eq] at h
  have e : elim (gjTo M [] p).1 (gjTo M [] p).1 p n = (gjTo M [] (p + 1)).1 := by simp only [gjTo]; rw [hM]
  rw [e] at h
  have ih := chk_out hM (r := r) (p := p + 1) (by omega) h.2
  refine ⟨ih.1, fun k h1 h2 => ?_⟩
  by_cases e : k = p
  ·subst e; simpa using h.1
  ·exact ih.2 k (by omega) h2
def cauM (D : Nat) (gone cho : List Nat) : List (List Nat) := cho.map fun j => gone.map (fac D j)
def allOk (D g : Nat) : Bool := (subs D g).all fun gone => (subs 4 g).all fun cho => fM (cauM D gone cho) (chk g g 0)
theorem allOk_out {D g : Nat} (h : allOk D g = true) {gone cho : List Nat} (h1 : gone ∈ subs D g) (h2 : cho ∈ subs 4 g) (hg : cho.length = g) :
  (gjTo (cauM D gone cho) [] g).1 = unitM g ∧ ∀ k, k < g → ((gjTo (cauM D gone cho) [] k).1.getD k []).getD k 0 ≠ 0 := by
 unfold allOk at h
 have := List.all_eq_true.1 (List.all_eq_true.1 h gone h1) cho h2
 rw [fM_eq] at this
 have k := chk_out (M := cauM D gone cho) (n := g) (by simp [cauM, hg]) (r := g) (p := 0) (by omega) this
 exact ⟨k.1, fun i hi => k.2 i (by omega) hi⟩
end Go.Proofs.Ytapehckcmmompaa
namespace Go.Proofs.Ytapehckcmmompaa
open Gf
set_option maxRecDepth 100000
theorem all_1_0 : allOk 1 0 = true := by decide +kernel
theorem all_1_1 : allOk 1 1 = true := by decide +kernel
theorem all_1_2 : allOk 1 2 = true := by decide +kernel
theorem all_1_3 : allOk 1 3 = true := by decide +kernel
theorem all_1_4 : allOk 1 4 = true := by decide +kernel
theorem all_2_0 : allOk 2 0 = true := by decide +kernel
theorem all_2_1 : allOk 2 1 = true := by decide +kernel
theorem all_2_2 : allOk 2 2 = true := by decide +kernel
theorem all_2_3 : allOk 2 3 = true := by decide +kernel
theorem all_2_4 : allOk 2 4 = true := by decide +kernel
theorem all_3_0 : allOk 3 0 = true := by decide +kernel
theorem all_3_1 : allOk 3 1 = true := by decide +kernel
theorem all_3_2 : allOk 3 2 = true := by decide +kernel
theorem all_3_3 : allOk 3 3 = true := by decide +kernel
theorem all_3_4 : allOk 3 4 = true := by decide +kernel
theorem all_4_0 : allOk 4 0 = true := by decide +kernel
theorem all_4_1 : allOk 4 1 = true := by decide +kernel
theorem all_4_2 : allOk 4 2 = true := by decide +kernel
theorem all_4_3 : allOk 4 3 = true := by decide +kernel
theorem all_4_4 : allOk 4 4 = true := by decide +kernel
theorem all_5_0 : allOk 5 0 = true := by decide +kernel
theorem all_5_1 : allOk 5 1 = true := by decide +kernel
theorem all_5_2 : allOk 5 2 = true := by decide +kernel
theorem all_5_3 : allOk 5 3 = true := by decide +kernel
theorem all_5_4 : allOk 5 4 = true := by decide +kernel
theorem all_6_0 : allOk 6 0 = true := by decide +kernel
theorem all_6_1 : allOk 6 1 = true := by decide +kernel
theorem all_6_2 : allOk 6 2 = true := by decide +kernel
theorem all_6_3 : allOk 6 3 = true := by decide +kernel
theorem all_6_4 : allOk 6 4 = true := by decide +kernel
theorem all_7_0 : allOk 7 0 = true := by decide +kernel
theorem all_7_1 : allOk 7 1 = true := by decide +kernel
theorem all_7_2 : allOk 7 2 = true := by decide +kernel
theorem all_7_3 : allOk 7 3 = true := by decide +kernel
theorem all_7_4 : allOk 7 4 = true := by decide +kernel
theorem all_8_0 : allOk 8 0 = true := by decide +kernel
theorem all_8_1 : allOk 8 1 = true := by decide +kernel
theorem all_8_2 : allOk 8 2 = true := by decide +kernel
theorem all_8_3 : allOk 8 3 = true := by decide +kernel
theorem all_8_4 : allOk 8 4 = true := by decide +kernel
theorem all_ok {D g : Nat} (h1 : 1 ≤ D) (h8 : D ≤ 8) (hg : g ≤ 4) : allOk D g = true := by
 match D, g, h1, h8, hg with
 | 1, 0, _, _, _ => exact all_1_0
 | 1, 1, _, _, _ => exact all_1_1
 | 1, 2, _, _, _ => exact all_1_2
 | 1, 3, _, _, _ => exact all_1_3
 | 1, 4, _, _, _ => exact all_1_4
 | 2, 0, _, _, _ => exact all_2_0
 | 2, 1, _, _, _ => exact all_2_1
 | 2, 2, _, _, _ => exact all_2_2
 | 2, 3, _, _, _ => exact all_2_3
 | 2, 4, _, _, _ => exact all_2_4
 | 3, 0, _, _, _ => exact all_3_0
 | 3, 1, _, _, _ => exact all_3_1
 | 3, 2, _, _, _ => exact all_3_2
 | 3, 3, _, _, _ => exact all_3_3
 | 3, 4, _, _, _ => exact all_3_4
 | 4, 0, _, _, _ => exact all_4_0
 | 4, 1, _, _, _ => exact all_4_1
 | 4, 2, _, _, _ => exact all_4_2
 | 4, 3, _, _, _ => exact all_4_3
 | 4, 4, _, _, _ => exact all_4_4
 | 5, 0, _, _, _ => exact all_5_0
 | 5, 1, _, _, _ => exact all_5_1
 | 5, 2, _, _, _ => exact all_5_2
 | 5, 3, _, _, _ => exact all_5_3
 | 5, 4, _, _, _ => exact all_5_4
 | 6, 0, _, _, _ => exact all_6_0
 | 6, 1, _, _, _ => exact all_6_1
 | 6, 2, _, _, _ => exact all_6_2
 | 6, 3, _, _, _ => exact all_6_3
 | 6, 4, _, _, _ => exact all_6_4
 | 7, 0, _, _, _ => exact all_7_0
 | 7, 1, _, _, _ => exact all_7_1
 | 7, 2, _, _, _ => exact all_7_2
 | 7, 3, _, _, _ => exact all_7_3
 | 7, 4, _, _, _ => exact all_7_4
 | 8, 0, _, _, _ => exact all_8_0
 | 8, 1, _, _, _ => exact all_8_1
 | 8, 2, _, _, _ => exact all_8_2
 | 8, 3, _, _, _ => exact all_8_3
 | 8, 4, _, _, _ => exact all_8_4
 | D + 9, g, _, h, _ => omega
 | 1, g + 5, _, _, h => omega
 | 2, g + 5, _, _, h => omega
 | 3, g + 5, _, _, h => omega
 | 4, g + 5, _, _, h => omega
 | 5, g + 5, _, _, h => omega
 | 6, g + 5, _, _, h => omega
 | 7, g + 5, _, _, h => omega
 | 8, g + 5, _, _, h => omega
end Go.Proofs.Ytapehckcmmompaa
namespace Go.Proofs.Ytapehckcmmompaa
open Gf
set_option linter.unusedVariables false
set_option maxRecDepth 100000
theorem parTo_getD {d : List (List Nat)} {j t : Nat} (ht : t < (d.getD 0 []).length) : ∀ i, (parTo d j i).getD t 0 = sumN (fun k => gm (fac d.length j k) ((d.getD k []).getD t 0)) i
 | 0 => by
  have : (List.replicate (d.getD 0 []).length 0)[t]? = some 0 := by rw [List.getElem?_replicate, if_pos ht]
  rw [parTo, List.getD_eq_getElem?_getD, this]; rfl
 | i + 1 => by rw [parTo, addR_getD (by rw [parTo_len]; exact ht), parTo_getD ht i]; rfl
theorem synTo_getD {D : Nat} {m : List (List Nat)} {j t : Nat} (ht : t < (m.getD (D + j) []).length) : ∀ i, (synTo D m j i).getD t 0 = (m.getD (D + j) []).getD t 0 ^^^ sumN (fun k => gm (fac D j k) ((m.getD k []).getD t 0)) i
 | 0 => by simp [synTo, sumN]
 | i + 1 => by rw [synTo, addR_getD (by rw [synTo_len]; exact ht), synTo_getD ht i, Nat.xor_assoc]; rfl
theorem lostL_place {m : List (List Nat)} {n : Nat} (h0 : (m.getD n []).length = 0) : ∀ D, n < D → (lostL m D)[(lostL m n).length]? = some n
 | 0, h => by omega
 | D + 1, h => by
  rw [lostL_more]
  by_cases e : n = D
  ·subst e; rw [if_pos h0]; simp
  ·have ih := lostL_place h0 D (by omega)
   rw [List.getElem?_append_left (get_lt ih)]; exact ih
structure Fit (m r : List (List Nat)) : Prop where
 len : m.length = r.length
 each : ∀ i, (m.getD i []).length = 0 ∨ m.getD i [] = r.getD i []
theorem sum_lost {D j t : Nat} {m r : List (List Nat)} {x : Nat → Nat} (hf : ∀ i, i < D → (m.getD i []).length = 0 ∨ m.getD i [] = r.getD i []) (hx : ∀ i, i < D → (m.getD i []).length = 0 → x (lostL m i).length = (r.getD i []).getD t 0) :
  ∀ n, n ≤ D → sumN (fun k => gm (fac D j k) ((r.getD k []).getD t 0)) n ^^^ sumN (fun k => gm (fac D j k) ((m.getD k []).getD t 0)) n = sumN (fun k => gm (((lostL m n).map (fac D j)).getD k 0) (x k)) (lostL m n).length
 | 0, _ => by simp [sumN, lostL]
 | n + 1, h => by
  have ih := sum_lost hf hx n (by omega) (j := j)
  have e1 : sumN (fun k => gm (fac D j k) ((r.getD k []).getD t 0)) (n + 1) ^^^ sumN (fun k => gm (fac D j k) ((m.getD k []).getD t 0)) (n + 1) = (sumN (fun k => gm (fac D j k) ((r.getD k []).getD t 0)) n ^^^ sumN (fun k => gm (fac D j k) ((m.getD k []).getD t 0)) n) ^^^ (gm (fac D j n) ((r.getD n []).getD t 0) ^^^ gm (fac D j n) ((m.getD n []).getD t 0)) := by simp only [sumN]; ac_rfl
  rw [e1, ih, lostL_more]
  by_cases h0 : (m.getD n []).length = 0
  ·rw [if_pos h0, List.length_append, List.map_append]
   have em : m.getD n [] = [] := List.eq_nil_of_length_eq_zero h0
   show _ = sumN _ ((lostL m n).length + 1)
   simp only [sumN]
   congr 1
   ·refine sumN_congr fun k hk => ?_
    rw [List.getD_eq_getElem?_getD, List.getD_eq_getElem?_getD, List.getElem?_append_left (by simpa using hk)]
   ·rw [em, hx n (by omega) h0, List.getD_eq_getElem?_getD (l := List.map _ _ ++ _), List.getElem?_append_right (by simp)]
    simp [gm_zero_right]
  ·rw [if_neg h0, List.append_nil]
   have em : m.getD n [] = r.getD n [] := (hf n (by omega)).resolve_left h0
   rw [em, Nat.xor_self, Nat.xor_zero]
theorem okd_len {d : List (List Nat)} {q : Nat} (h : OkD d q) : (d.getD 0 []).length = q := len_getD h.each (by have := h.d1; omega)
theorem enc_lo {d : List (List Nat)} {M i : Nat} (hi : i < d.length) : (enc d M).getD i [] = d.getD i [] := by
 unfold enc
 rw [List.getD_eq_getElem?_getD, List.getElem?_append_left hi, ← List.getD_eq_getElem?_getD]
theorem enc_hi {d : List (List Nat)} {M j : Nat} (hj : j < M) : (enc d M).getD (d.length + j) [] = par d j := by
 unfold enc
 rw [List.getD_eq_getElem?_getD, List.getElem?_append_right (by omega)]
 simp [hj]
theorem par_len {d : List (List Nat)} {q : Nat} (h : OkD d q) (j : Nat) : (par d j).length = q := by unfold par; rw [parTo_len, okd_len h]
theorem enc_rows {d : List (List Nat)} {q : Nat} (h : OkD d q) (M : Nat) : ∀ l ∈ enc d M, l.length = q := fun l hl => by
 unfold enc at hl
 rcases List.mem_append.1 hl with h1 | h1
 ·exact h.each l h1
 ·obtain ⟨j, _, rfl⟩ := List.mem_map.1 h1
  exact par_len h j
theorem enc_byt {d : List (List Nat)} {q M : Nat} (h : OkD d q) (hb : ∀ l ∈ d, Byt l) (hM : M ≤ 4) : ∀ l ∈ enc d M, Byt l := fun l hl => by
 unfold enc at hl
 rcases List.mem_append.1 hl with h1 | h1
 ·exact hb l h1
 ·obtain ⟨j, hj, rfl⟩ := List.mem_map.1 h1
  exact parTo_byt h.d8 (by have := List.mem_range.1 hj; omega) _ (Nat.le_refl _)
theorem getD_lt_of {m : List (List Nat)} {i : Nat} (h : (m.getD i []).length ≠ 0) : i < m.length := by
 rcases Nat.lt_or_ge i m.length with h1 | h1
 ·exact h1
 ·rw [List.getD_eq_getElem?_getD, List.getElem?_eq_none h1] at h; exact absurd rfl h
theorem row_ext {a b : List Nat} {q : Nat} (ha : a.length = q) (hb : b.length = q) (h : ∀ t, t < q → a.getD t 0 = b.getD t 0) : a = b := by
 apply List.ext_getElem (by omega)
 intro t h1 h2
 have := h t (by omega)
 rw [List.getD_eq_getElem?_getD, List.getD_eq_getElem?_getD, List.getElem?_eq_getElem h1, List.getElem?_eq_getElem h2] at this
 exact this
theorem Fit.okq {d m : List (List Nat)} {q M : Nat} (h : OkD d q) (hM : M ≤ 4) (hf : Fit m (enc d M)) : Okq d.length M q m :=
 ⟨h.d1, h.d8, hM, by rw [hf.len, enc_len], h.n1, h.n64, fun l hl => by
  obtain ⟨i, hi, rfl⟩ := List.mem_iff_getElem.1 hl
  have e : m.getD i [] = m[i] := getD_of (List.getElem?_eq_getElem hi)
  rcases hf.each i with h1 | h1
  ·rw [e] at h1; exact .inl h1
  ·rw [e] at h1; rw [h1]; exact .inr (len_getD (enc_rows h M) (by rw [← hf.len]; exact hi))⟩
theorem data_back {d m : List (List Nat)} {q M : Nat} (h : OkD d q) (hb : ∀ l ∈ d, Byt l) (hM : M ≤ 4) (hf : Fit m (enc d M)) (hl : lostN m ≤ M) : dataL d.length M m = d := by
 have hq := hf.okq h hM
 have hok := hq.ok hl
 have hsz := hq.size hl
 have ce := cho_enough hok.len hl
 have d8 := h.d8
 have sr := solR_rows hok hl
 have lo : ∀ i, i < d.length → (m.getD i []).length = 0 ∨ m.getD i [] = d.getD i [] := fun i hi => by
  have := hf.each i
  rwa [enc_lo hi] at this
 have g4 : (goneL d.length m).length ≤ 4 := by
  have h1 : (goneL d.length m).length = lostN (m.take d.length) := lostL_count _ (by have := hok.len; omega)
  have := lost_split d.length m
  omega
 generalize hg : (goneL d.length m).length = g at *
 generalize hc : choTo d.length m g M = cho at *
 have cs : cho ∈ subs 4 g := by
  have := choTo_subs d.length m g M
  rw [hc, ce] at this
  exact subs_le this hM
 have gs : goneL d.length m ∈ subs d.length g := by
  have := lostL_subs m d.length
  unfold goneL at hg ⊢
  rwa [hg] at this
 obtain ⟨hu, _⟩ := allOk_out (all_ok h.d1 d8 g4) gs cs ce
 have em : matM d.length m cho = cauM d.length (goneL d.length m) cho := rfl
 have bM : ∀ l ∈ matM d.length m cho, Byt l := fun l hl => by
  simp only [matM, List.mem_map] at hl
  obtain ⟨j, hj, rfl⟩ := hl
  intro x hx
  obtain ⟨i, hi, rfl⟩ := List.mem_map.1 hx
  have hj' := ((choTo_le d.length m g M).2.2 j (by rw [hc]; exact hj)).1
  obtain ⟨k, hk⟩ := List.mem_iff_getElem?.1 hi
  have := (lostL_rank _ hk).1
  exact fac_lt (by omega) (by omega)
 have rR : ∀ l ∈ matR d.length m cho, l.length = q := fun l hl => by
  simp only [matR, List.mem_map] at hl
  obtain ⟨j, hj, rfl⟩ := hl
  obtain ⟨hj1, hj2⟩ := (choTo_le d.length m g M).2.2 j (by rw [hc]; exact hj)
  unfold syn
  rw [synTo_len]
  rcases hf.each (d.length + j) with h1 | h1
  ·exact absurd h1 hj2
  ·rw [h1, enc_hi hj1, par_len h]
 have key : ∀ i, i < d.length → (m.getD i []).length = 0 → (solR d.length M m).getD (lostL m i).length [] = d.getD i [] := fun i hi h0 => by
  have hlt : (lostL m i).length < g := by rw [← hg]; exact lostL_lt hi h0
  refine row_ext (q := q) (by rw [len_getD sr.2 (by rw [sr.1]; exact hlt)]; exact hsz) (len_getD h.each hi) fun t ht => ?_
  let x : Nat → Nat := fun k => (d.getD ((lostL m d.length).getD k 0) []).getD t 0
  have hx : ∀ k, x k < 256 := fun k => Byt.getD_ (rows_getD hb Byt.nil _) t
  have hxi : ∀ i, i < d.length → (m.getD i []).length = 0 → x (lostL m i).length = (d.getD i []).getD t 0 := fun i hi h0 => by
   show (d.getD ((lostL m d.length).getD _ 0) []).getD t 0 = _
   rw [List.getD_eq_getElem?_getD (l := lostL m d.length), lostL_place h0 _ hi]; rfl
  have so : Sol (matM d.length m cho) (matR d.length m cho) x t g := fun r hr => by
   obtain ⟨j, hj⟩ := get_some (show r < cho.length by rw [ce]; exact hr)
   obtain ⟨hj1, hj2⟩ := (choTo_le d.length m g M).2.2 j (by rw [hc]; exact List.mem_of_getElem? hj)
   have e1 : (matM d.length m cho).getD r [] = (goneL d.length m).map (fac d.length j) := getD_of (by simp [matM, hj])
   have e2 : (matR d.length m cho).getD r [] = syn d.length m j := getD_of (by simp [matR, hj])
   have e3 : m.getD (d.length + j) [] = par d j := by
    rcases hf.each (d.length + j) with h1 | h1
    ·exact absurd h1 hj2
    ·rw [h1, enc_hi hj1]
   rw [e1, e2]
   unfold syn
   rw [synTo_getD (by rw [e3, par_len h]; exact ht), e3]
   unfold par
   rw [parTo_getD (by rw [okd_len h]; exact ht)]
   rw [← hg]
   exact (sum_lost lo hxi _ (Nat.le_refl _)).symm
  have fin := gjTo_sol (by rw [matM_len, ce]) (by rw [matR_len, ce]) (fun l hl => by rw [← hg]; exact matM_rows _ _ _ l hl) rR bM hx ht so g (Nat.le_refl _)
  rw [gjTo_fst _ _ [], em, hu] at fin
  have := sol_unit hx fin hlt
  rw [hxi i hi h0] at this
  unfold solR
  rw [hg, hc]
  exact this
 apply List.ext_getElem?
 intro i
 by_cases hi : i < d.length
 ·rw [dataL_at hi, getD_get hi]
  by_cases h0 : (m.getD i []).length = 0
  ·rw [if_pos h0, key i hi h0]
  ·rw [if_neg h0, (lo i hi).resolve_left h0]
 ·rw [List.getElem?_eq_none (by rw [dataL_len]; omega), List.getElem?_eq_none (by omega)]
end Go.Proofs.Ytapehckcmmompaa
namespace Go.Proofs.Ytapehckcmmompaa
open Gf
set_option linter.unusedVariables false
set_option maxRecDepth 100000
theorem szL_rows {m : List (List Nat)} {q : Nat} (h : ∀ l ∈ m, l.length = q) (h0 : 0 < m.length) (hq : 1 ≤ q) : szL m = q := by
 obtain ⟨l, hl⟩ := get_some h0
 have e := h l (List.mem_of_getElem? hl)
 rw [szL_at hl (by omega) (fun j l' hj => by omega), e]
theorem lostN_rows {m : List (List Nat)} {q : Nat} (h : ∀ l ∈ m, l.length = q) (hq : 1 ≤ q) : lostN m = 0 := by
 induction m with
 | nil => rfl
 | cons x m ih =>
  simp only [lostN]
  rw [ih fun l hl => h l (List.mem_cons_of_mem _ hl), if_neg (by rw [h x List.mem_cons_self]; omega)]
theorem enc_ok {d : List (List Nat)} {q M : Nat} (h : OkD d q) (hM : M ≤ 4) : Ok d.length M (enc d M) := by
 have e := szL_rows (enc_rows h M) (by rw [enc_len]; have := h.d1; omega) h.n1
 exact ⟨h.d1, h.d8, hM, enc_len d M, by rw [e]; exact h.n1, by rw [e]; exact h.n64, fun l hl => .inr (by rw [e]; exact enc_rows h M l hl)⟩
theorem enc_take (d : List (List Nat)) (M : Nat) : (enc d M).take d.length = d := by simp [enc]
theorem enc_sound {d : List (List Nat)} {q M : Nat} (h : OkD d q) (hM : M ≤ 4) : sndB d.length M (enc d M) = true := by
 rw [sndB_eq (enc_ok h hM)]
 unfold rsB
 rw [lostN_rows (enc_rows h M) h.n1, enc_take, decide_eq_true rfl, decide_eq_true rfl]; rfl
theorem enc_chk {d : List (List Nat)} {q M : Nat} (h : OkD d q) (hM : M ≤ 4) : chkE d.length M (enc d M) = 0 := ok_chkE (enc_ok h hM)
theorem enc_sd {d : List (List Nat)} {q M : Nat} (h : OkD d q) (hM : M ≤ 4) : sdB d.length M (enc d M) = true := by
 unfold sdB
 rw [enc_chk h hM, decide_eq_true rfl, Int.toNat_natCast, Int.toNat_natCast, enc_sound h hM]; rfl
def cntP (p : Nat → Bool) (n : Nat) : Nat := ((List.range n).filter p).length
theorem cntP_succ (p : Nat → Bool) (n : Nat) : cntP p (n + 1) = cntP p n + if p n then 1 else 0 := by
 unfold cntP
 rw [List.range_succ, List.filter_append, List.length_append, List.filter_cons, List.filter_nil]
 split <;> rfl
theorem cntP_congr {p p' : Nat → Bool} : ∀ {n : Nat}, (∀ i, i < n → p i = p' i) → cntP p n = cntP p' n
 | 0, _ => rfl
 | n + 1, h => by rw [cntP_succ, cntP_succ, cntP_congr (fun i hi => h i (by omega)), h n (by omega)]
theorem cntP_more {p : Nat → Bool} {k : Nat} (hk : p k = false) : ∀ {n : Nat}, k < n → cntP (fun i => decide (i = k) || p i) n = cntP p n + 1
 | 0, h => by omega
 | n + 1, h => by
  rw [cntP_succ, cntP_succ]
  by_cases e : n = k
  ·subst e
   rw [decide_eq_true rfl, Bool.true_or, if_pos rfl, hk, if_neg (by decide), cntP_congr (p' := p) (fun i hi => by rw [decide_eq_false (by omega), Bool.false_or])]
  ·rw [cntP_more hk (by omega), decide_eq_false e, Bool.false_or]; omega
theorem cntP_none {n : Nat} : cntP (fun _ => false) n = 0 := by unfold cntP; simp
theorem goneB_cnt {n : Nat} : ∀ {ds : List Int}, inB n ds = true → ds.Nodup → cntP (goneB ds) n = ds.length
 | [], _, _ => (cntP_congr (p := goneB []) (p' := fun _ => false) (fun i _ => rfl)).trans cntP_none
 | x :: ds, h, hn => by
  have h' : (0 ≤ x ∧ x < (n : Int)) ∧ inB n ds = true := by
   unfold inB at h ⊢
   rw [List.all_cons, Bool.and_eq_true, Bool.and_eq_true, decide_eq_true_eq, decide_eq_true_eq] at h
   exact h
  obtain ⟨k, rfl⟩ := Int.eq_ofNat_of_zero_le h'.1.1
  rw [List.nodup_cons] at hn
  have e : goneB ds k = false := by
   cases hg : goneB ds k with
   | false => rfl
   | true =>
    unfold goneB at hg
    rw [List.any_eq_true] at hg
    obtain ⟨y, hy, e⟩ := hg
    rw [beq_iff_eq] at e
    subst e
    exact absurd hy hn.1
  rw [cntP_congr (p' := fun i => decide (i = k) || goneB ds i) (fun i _ => ?_), cntP_more e (by omega), goneB_cnt h'.2 hn.2]; rfl
  unfold goneB
  rw [List.any_cons]
  congr 1
  rw [Bool.eq_iff_iff]; simp; omega
theorem keepL_getD {m : List (List Nat)} {p : Nat → Bool} {i : Nat} : (keepL m p).getD i [] = if p i then [] else m.getD i [] := by
 by_cases h : i < m.length
 ·exact getD_of (by simp only [keepL, List.getElem?_map, List.getElem?_range h, Option.map_some])
 ·have e1 : m.getD i [] = [] := by rw [List.getD_eq_getElem?_getD, List.getElem?_eq_none (by omega)]; rfl
  have e2 : (keepL m p).getD i [] = [] := by rw [List.getD_eq_getElem?_getD, List.getElem?_eq_none (by rw [keepL_len]; omega)]; rfl
  rw [e1, e2]; split <;> rfl
theorem keepL_lost {m : List (List Nat)} {p : Nat → Bool} {q : Nat} (h : ∀ l ∈ m, l.length = q) (hq : 1 ≤ q) : lostN (keepL m p) = cntP p m.length := by
 have e := lostL_count (m := keepL m p) m.length (by rw [keepL_len]; exact Nat.le_refl _)
 rw [List.take_of_length_le (by rw [keepL_len]; exact Nat.le_refl _)] at e
 rw [← e]
 show cntP _ _ = _
 refine cntP_congr fun i hi => ?_
 rw [keepL_getD]
 cases hp : p i with
 | true => rw [if_pos rfl]; rfl
 | false =>
  rw [if_neg (by decide)]
  exact decide_eq_false (by rw [len_getD h hi]; omega)
theorem keepL_fit (m : List (List Nat)) (p : Nat → Bool) : Fit (keepL m p) m := ⟨keepL_len m p, fun i => by
 rw [keepL_getD]; split
 ·exact .inl rfl
 ·exact .inr rfl⟩
theorem Fit.fitB_ {m r : List (List Nat)} (h : Fit m r) : fitB m r = true := fitB_true h.len fun j l l' h1 h2 => by
 have := h.each j
 rw [getD_of h1, getD_of h2] at this
 exact this
theorem rst_back {d m : List (List Nat)} {q M : Nat} (h : OkD d q) (hb : ∀ l ∈ d, Byt l) (hM : M ≤ 4) (hf : Fit m (enc d M)) (hl : lostN m ≤ M) : rstE d.length M m = 0 := by
 unfold rstE
 rw [if_neg (by omega), data_back h hb hM hf hl, hf.fitB_, if_pos rfl]
theorem res_back {d m : List (List Nat)} {q M : Nat} (h : OkD d q) (hb : ∀ l ∈ d, Byt l) (hM : M ≤ 4) (hf : Fit m (enc d M)) (hl : lostN m ≤ M) :
  resE d.length M m = 0 ∧ resS d.length M m = ((d.length : Int), (M : Int), enc d M) := by
 have hok := (hf.okq h hM).ok hl
 have e : resE d.length M m = 0 := by
  unfold resE
  rw [ok_chkE hok, if_pos rfl, Int.toNat_natCast, Int.toNat_natCast, rst_back h hb hM hf hl]
 refine ⟨e, ?_⟩
 unfold resS
 rw [e, if_pos rfl, Int.toNat_natCast, Int.toNat_natCast, data_back h hb hM hf hl]
theorem res_lost {d m : List (List Nat)} {q M : Nat} (h : OkD d q) (hM : M ≤ 4) (hf : Fit m (enc d M)) (hl : M < lostN m) (hs : szL m ≠ 0) :
  resE d.length M m = 32 ∧ resS d.length M m = (0, 0, []) := by
 have hq := hf.okq h hM
 have hz : szL m = q := by
  obtain ⟨l, hl, e⟩ := szL_mem hs
  rcases hq.each l hl with h1 | h1 <;> omega
 have hok : Ok d.length M m := ⟨hq.d1, hq.d8, hq.m4, hq.len, by rw [hz]; exact hq.q1, by rw [hz]; exact hq.q64, fun l hl => by rw [hz]; exact hq.each l hl⟩
 have e : resE d.length M m = 32 := by
  unfold resE
  rw [ok_chkE hok, if_pos rfl, Int.toNat_natCast, Int.toNat_natCast]
  unfold rstE
  rw [if_pos hl]
 exact ⟨e, resS_err e (by decide)⟩
theorem lose_cases {d : List (List Nat)} {q M : Nat} (h : OkD d q) (hM : M ≤ 4) (ds : List Int) :
  (loseE d.length M (enc d M) ds = 2 ∨ loseE d.length M (enc d M) ds = 14 ∨ loseE d.length M (enc d M) ds = 32) ∨
  (loseE d.length M (enc d M) ds = 0 ∧ loseS d.length M (enc d M) ds = ((d.length : Int), (M : Int), keepL (enc d M) (goneB ds)) ∧ szL (keepL (enc d M) (goneB ds)) ≠ 0 ∧ lostN (keepL (enc d M) (goneB ds)) = ds.length) := by
 have hL : loseE d.length M (enc d M) ds = if inB (enc d M).length ds = false then 2 else if ds.Nodup then (if szL (keepL (enc d M) (goneB ds)) = 0 then 32 else 0) else 14 := by
  unfold loseE
  rw [if_neg (by rw [enc_chk h hM]; exact fun e => e rfl)]
 by_cases h1 : inB (enc d M).length ds = false
 ·rw [hL, if_pos h1]; exact .inl (.inl rfl)
 by_cases h2 : ds.Nodup
 ·by_cases h3 : szL (keepL (enc d M) (goneB ds)) = 0
  ·rw [hL, if_neg h1, if_pos h2, if_pos h3]; exact .inl (.inr (.inr rfl))
  ·have e : loseE d.length M (enc d M) ds = 0 := by rw [hL, if_neg h1, if_pos h2, if_neg h3]
   refine .inr ⟨e, ?_, h3, ?_⟩
   ·unfold loseS; rw [e, if_pos rfl]
   ·rw [keepL_lost (enc_rows h M) h.n1, goneB_cnt (by simpa using h1) h2]
 ·rw [hL, if_neg h1, if_neg h2]; exact .inl (.inr (.inl rfl))
theorem encS_ok {d : List (List Nat)} {M : Int} (h : encE d M = 0) : encS d M = ((d.length : Int), M, enc d M.toNat) := by unfold encS; rw [h, if_pos rfl]
end Go.Proofs.Ytapehckcmmompaa
