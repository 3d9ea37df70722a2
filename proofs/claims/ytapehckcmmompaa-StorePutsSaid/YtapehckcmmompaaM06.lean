/- Several texts in one. -/
import Derived.Test.YtapehckcmmompaaM04
import Derived.Test.YtapehckcmmompaaM05
namespace Go.Proofs.Ytapehckcmmompaa
open Go.ChangeShapes Go.WideShapes Go.ChangeAt Go.RowKit Gf
set_option linter.unusedVariables false
set_option maxRecDepth 100000
attribute [local go_sem ↓] Go.wp_at_zero Go.wp_at_succ
def resE (D M : Int) (m : List (List Nat)) : Int := if chkE D M m = 0 then rstE D.toNat M.toNat m else chkE D M m
def resS (D M : Int) (m : List (List Nat)) : St := if resE D M m = 0 then (D, M, enc (dataL D.toNat M.toNat m) M.toNat) else (0, 0, [])
theorem resS_err {D M : Int} {m : List (List Nat)} {er : Int} (h : resE D M m = er) (h0 : er ≠ 0) : resS D M m = (0, 0, []) := by unfold resS; rw [h, if_neg h0]
set_option maxHeartbeats 1000000 in
theorem restore_calls (D M : Int) (A : Option Addr) (c B : Nat) (m : List (List Nat)) (w : World) (hn : m.length ≤ c) (hc : c ≤ 9223372036854775807) (hs : RMA B w A m) :
  Calls Try.prog 51 #[Sv D M (.slice A m.length c)] w (SEPost w (resS D M m) (resE D M m)) := by
 have HS := Lib.hid hs
 clear hs
 have CC := Lib.hid (fun W (h : RMA B W A m) => check_calls D M A c B m W hn hc h)
 by_cases ck : chkE D M m = 0
 ·obtain ⟨OKS, hD, hM⟩ := chkE_ok ck
  have FE : Hid (resE D M m = rstE D.toNat M.toNat m ∧ resS D M m = rstS D.toNat M.toNat m) := Lib.hid (by
   have e1 : resE D M m = rstE D.toNat M.toNat m := by unfold resE; rw [if_pos ck]
   refine ⟨e1, ?_⟩
   unfold resS rstS
   rw [e1, ← hD, ← hM])
  rw [ck] at CC
  generalize D.toNat = D' at *
  generalize M.toNat = M' at *
  subst hD hM
  have RC := Lib.hid (fun W (h : RMA B W A m) => restored_calls A c B D' M' (szL m) m W hn hc h OKS.q)
  rw [FE.out.1, FE.out.2]
  generalize rstE D' M' m = er at *
  generalize rstS D' M' m = rs at *
  obtain ⟨r1, r2, r3⟩ := rs
  clear ck OKS FE
  go_enter Try.func51, Try.ntmps51
  go_wp2_with fail
  refine (CC.out _ (HS.out.next (Bal (Bal (Below.refl _ _) _) _))).mono ?_
  rintro e w1 ⟨rfl, hb1⟩
  have N1 : Hid (Below w.heap.size w w1) := Lib.hid (Bgo (Bal (Bal (Below.refl _ _) _) _) hb1)
  have SB1 : Hid (w1.heap[w.heap.size]? = some (.cells #[.int .i64 D', .int .i64 M', .slice A m.length c] 54)) := Lib.hid (blk_next hb1 (blk_alloc (blk_new w _) _))
  have X1 : Hid (w1.heap[w.heap.size + 1]? = some (.cells #[.int .i64 0, .int .i64 0, .slice none 0 0] 54)) := Lib.hid (blk_next hb1 (blk_at _ (by simp)))
  have s0 : w1.cell? ⟨w.heap.size, 0, none⟩ = some (.int .i64 D') := blk_cell SB1.out 0 _ rfl
  have s1 : w1.cell? ⟨w.heap.size, 1, none⟩ = some (.int .i64 M') := blk_cell SB1.out 1 _ rfl
  have s2 : w1.cell? ⟨w.heap.size, 2, none⟩ = some (.slice A m.length c) := blk_cell SB1.out 2 _ rfl
  clear hb1
  go_wp2_with fail
  refine (RC.out _ (HS.out.next N1.out)).mono ?_
  rintro e w2 ⟨v, rfl, ⟨us, ho⟩, hb2⟩
  obtain ⟨Av, cv, rfl, hv1, hv2, _⟩ := own_form ho.top
  have X2 := Lib.hid (blk_next hb2 X1.out)
  have N2 := Lib.hid (Bgo N1.out hb2)
  have O2 := Lib.hid (ho.mono (B' := w.heap.size) N1.out.size)
  clear hb2 ho s0 s1 s2
  have x0 : w2.cell? ⟨w.heap.size + 1, 0, none⟩ = some (.int .i64 0) := blk_cell X2.out 0 _ rfl
  have x1 : w2.cell? ⟨w.heap.size + 1, 1, none⟩ = some (.int .i64 0) := blk_cell X2.out 1 _ rfl
  have x2 : w2.cell? ⟨w.heap.size + 1, 2, none⟩ = some (.slice none 0 0) := blk_cell X2.out 2 _ rfl
  have f0 : w2.frozen? ⟨w.heap.size + 1, 0, none⟩ = false := blk_frozen X2.out 0
  have f1 : w2.frozen? ⟨w.heap.size + 1, 1, none⟩ = false := blk_frozen X2.out 1
  have f2 : w2.frozen? ⟨w.heap.size + 1, 2, none⟩ = false := blk_frozen X2.out 2
  go_wp2_with fail
  have Z := blk_set3 X2.out (.int .i64 r1) (.int .i64 r2) (.slice Av r3.length cv)
  have e0 := blk_cell Z 0 _ rfl
  have e1 := blk_cell Z 1 _ rfl
  have e2 := blk_cell Z 2 _ rfl
  refine bodyPost_ret (v := .tuple #[Sv r1 r2 (.slice Av r3.length cv), .int .i64 er]) (by simp [results, Try.results51, go_sem, e0, e1, e2]) rfl ⟨_, rfl, ⟨us, ?_⟩, ?_⟩
  ·exact O2.out.set3_ X2.out _ _ _
  ·exact Bset3 N2.out (by omega) _ _ _
 ·have FE : Hid (resE D M m = chkE D M m) := Lib.hid (by unfold resE; rw [if_neg ck])
  have q : (chkE D M m != 0) = true := by rw [bne_iff_ne]; exact ck
  rw [resS_err FE.out ck, FE.out]
  generalize chkE D M m = er at *
  clear ck FE
  go_enter Try.func51, Try.ntmps51
  go_wp2_with fail
  refine (CC.out _ (HS.out.next (Bal (Bal (Below.refl _ _) _) _))).mono ?_
  rintro e w1 ⟨rfl, hb1⟩
  have N1 : Hid (Below w.heap.size w w1) := Lib.hid (Bgo (Bal (Bal (Below.refl _ _) _) _) hb1)
  have X1 : Hid (w1.heap[w.heap.size + 1]? = some (.cells #[.int .i64 0, .int .i64 0, .slice none 0 0] 54)) := Lib.hid (blk_next hb1 (blk_at _ (by simp)))
  clear hb1
  have x0 : w1.cell? ⟨w.heap.size + 1, 0, none⟩ = some (.int .i64 0) := blk_cell X1.out 0 _ rfl
  have x1 : w1.cell? ⟨w.heap.size + 1, 1, none⟩ = some (.int .i64 0) := blk_cell X1.out 1 _ rfl
  have x2 : w1.cell? ⟨w.heap.size + 1, 2, none⟩ = some (.slice none 0 0) := blk_cell X1.out 2 _ rfl
  have f0 : w1.frozen? ⟨w.heap.size + 1, 0, none⟩ = false := blk_frozen X1.out 0
  have f1 : w1.frozen? ⟨w.heap.size + 1, 1, none⟩ = false := blk_frozen X1.out 1
  have f2 : w1.frozen? ⟨w.heap.size + 1, 2, none⟩ = false := blk_frozen X1.out 2
  go_wp2_with fail
  have Z := blk_set3 X1.out (.int .i64 0) (.int .i64 0) (.slice none 0 0)
  have e0 := blk_cell Z 0 _ rfl
  have e1 := blk_cell Z 1 _ rfl
  have e2 := blk_cell Z 2 _ rfl
  refine bodyPost_ret (v := .tuple #[Sv 0 0 (.slice none 0 0), .int .i64 er]) (by simp [results, Try.results51, go_sem, e0, e1, e2]) rfl (SEPost.none_ ?_)
  exact Bset3 N1.out (by omega) _ _ _
def sndB (D M : Nat) (m : List (List Nat)) : Bool := decide (lostN m = 0) && decide (rstE D M m = 0)
set_option maxHeartbeats 1000000 in
theorem sound_calls (A : Option Addr) (c B D M q : Nat) (m : List (List Nat)) (w : World) (hn : m.length ≤ c) (hc : c ≤ 9223372036854775807) (hs : RMA B w A m) (hok : Okq D M q m) :
  Calls Try.prog 58 #[Sv D M (.slice A m.length c)] w fun e w' => e = .returned (.bool (sndB D M m)) ∧ Below w.heap.size w w' := by
 have HS := Lib.hid hs
 clear hs
 have LC := Lib.hid (fun W (h : RMA B W A m) => lost_calls (D : Int) (M : Int) A c B m W hn hc h)
 have RC := Lib.hid (fun W (h : RMA B W A m) => restored_calls A c B D M q m W hn hc h hok)
 have F : Hid (sndB D M m = (decide (lostN m = 0) && decide (rstE D M m = 0))) := Lib.hid rfl
 generalize sndB D M m = sb at *
 generalize lostN m = z at *
 generalize rstE D M m = er at *
 generalize rstS D M m = rs at *
 obtain ⟨r1, r2, r3⟩ := rs
 clear hok
 by_cases hz : 0 < z
 ·have F2 : Hid (sb = false) := Lib.hid (by rw [F.out, decide_eq_false (by omega)]; rfl)
  go_enter Try.func58, Try.ntmps58
  go_wp2_with fail
  refine (LC.out _ (HS.out.next (Bal (Below.refl _ _) _))).mono ?_
  rintro e w1 ⟨rfl, hb1⟩
  go_wp2_with fail
  go_ret
  exact ⟨ret_bool F2.out.symm, Bgo (Bal (Below.refl _ _) _) hb1⟩
 ·have F2 : Hid (sb = (er == 0)) := Lib.hid (by rw [F.out, decide_eq_true (by omega), Bool.true_and, Bool.eq_iff_iff]; simp)
  go_enter Try.func58, Try.ntmps58
  go_wp2_with fail
  refine (LC.out _ (HS.out.next (Bal (Below.refl _ _) _))).mono ?_
  rintro e w1 ⟨rfl, hb1⟩
  have N1 : Hid (Below w.heap.size w w1) := Lib.hid (Bgo (Bal (Below.refl _ _) _) hb1)
  have SB1 : Hid (w1.heap[w.heap.size]? = some (.cells #[.int .i64 D, .int .i64 M, .slice A m.length c] 54)) := Lib.hid (blk_next hb1 (blk_new w _))
  have s0 : w1.cell? ⟨w.heap.size, 0, none⟩ = some (.int .i64 D) := blk_cell SB1.out 0 _ rfl
  have s1 : w1.cell? ⟨w.heap.size, 1, none⟩ = some (.int .i64 M) := blk_cell SB1.out 1 _ rfl
  have s2 : w1.cell? ⟨w.heap.size, 2, none⟩ = some (.slice A m.length c) := blk_cell SB1.out 2 _ rfl
  clear hb1
  go_wp2_with fail
  refine (RC.out _ (HS.out.next N1.out)).mono ?_
  rintro e w2 ⟨v, rfl, ⟨us, ho⟩, hb2⟩
  obtain ⟨Av, cv, rfl, hv1, hv2, _⟩ := own_form ho.top
  have N2 := Lib.hid (Bgo N1.out hb2)
  clear hb2 ho s0 s1 s2
  go_wp2_with fail
  go_ret
  exact ⟨ret_bool F2.out.symm, Bal N2.out _⟩
def sdB (D M : Int) (m : List (List Nat)) : Bool := decide (chkE D M m = 0) && sndB D.toNat M.toNat m
set_option maxHeartbeats 1000000 in
theorem soundX_calls (D M : Int) (A : Option Addr) (c B : Nat) (m : List (List Nat)) (w : World) (hn : m.length ≤ c) (hc : c ≤ 9223372036854775807) (hs : RMA B w A m) :
  Calls Try.prog 25 #[Sv D M (.slice A m.length c)] w fun e w' => e = .returned (.tuple #[.bool (sdB D M m), .int .i64 (chkE D M m)]) ∧ Below w.heap.size w w' := by
 have HS := Lib.hid hs
 clear hs
 have CC := Lib.hid (fun W (h : RMA B W A m) => check_calls D M A c B m W hn hc h)
 by_cases ck : chkE D M m = 0
 ·obtain ⟨OKS, hD, hM⟩ := chkE_ok ck
  have F : Hid (sdB D M m = sndB D.toNat M.toNat m) := Lib.hid (by unfold sdB; rw [decide_eq_true ck, Bool.true_and])
  have SC := Lib.hid (fun W (h : RMA B W A m) => sound_calls A c B D.toNat M.toNat (szL m) m W hn hc h OKS.q)
  rw [← hD, ← hM] at SC
  rw [F.out, ck]
  rw [ck] at CC
  generalize sndB D.toNat M.toNat m = sb at *
  clear ck OKS hD hM F
  go_enter Try.func25, Try.ntmps25
  go_wp2_with fail
  refine (CC.out _ (HS.out.next (Bal (Below.refl _ _) _))).mono ?_
  rintro e w1 ⟨rfl, hb1⟩
  have N1 : Hid (Below w.heap.size w w1) := Lib.hid (Bgo (Bal (Below.refl _ _) _) hb1)
  have SB1 : Hid (w1.heap[w.heap.size]? = some (.cells #[.int .i64 D, .int .i64 M, .slice A m.length c] 54)) := Lib.hid (blk_next hb1 (blk_new w _))
  have s0 : w1.cell? ⟨w.heap.size, 0, none⟩ = some (.int .i64 D) := blk_cell SB1.out 0 _ rfl
  have s1 : w1.cell? ⟨w.heap.size, 1, none⟩ = some (.int .i64 M) := blk_cell SB1.out 1 _ rfl
  have s2 : w1.cell? ⟨w.heap.size, 2, none⟩ = some (.slice A m.length c) := blk_cell SB1.out 2 _ rfl
  clear hb1
  go_wp2_with fail
  refine (SC.out _ (HS.out.next N1.out)).mono ?_
  rintro e w2 ⟨rfl, hb2⟩
  go_wp2_with fail
  go_ret2
  exact ⟨rfl, Bgo N1.out hb2⟩
 ·have F : Hid (sdB D M m = false) := Lib.hid (by unfold sdB; rw [decide_eq_false ck]; rfl)
  have q : (chkE D M m != 0) = true := by rw [bne_iff_ne]; exact ck
  rw [F.out]
  generalize chkE D M m = er at *
  clear ck F
  go_enter Try.func25, Try.ntmps25
  go_wp2_with fail
  refine (CC.out _ (HS.out.next (Bal (Below.refl _ _) _))).mono ?_
  rintro e w1 ⟨rfl, hb1⟩
  go_wp2_with fail
  go_ret2
  exact ⟨rfl, Bgo (Bal (Below.refl _ _) _) hb1⟩
def oneB (k i : Nat) : Bool := decide (i = k)
def fndTo (D M : Nat) (m : List (List Nat)) : Nat → Nat × Nat
 | 0 => (0, 0)
 | k + 1 => if rstE D M (keepL m (oneB k)) = 0 then (k, (fndTo D M m k).2 + 1) else fndTo D M m k
def fndV (D M : Int) (m : List (List Nat)) : Int × Int :=
 if chkE D M m ≠ 0 then (0, chkE D M m) else if 0 < lostN m then (0, 2) else if sndB D.toNat M.toNat m then (-1, 0)
 else if (fndTo D.toNat M.toNat m m.length).2 ≠ 1 then (0, 6) else ((fndTo D.toNat M.toNat m m.length).1, 0)
theorem find1_calls (x k gb : Nat) (w : World) (h : w.cell? ⟨gb, 0, none⟩ = some (.int .i64 (k : Int))) :
  Calls Try.prog 77 #[.int .i64 (x : Int), .pointer (some ⟨gb, 0, none⟩)] w fun e w' => e = .returned (.bool (oneB k x)) ∧ w = w' := by
 have F : Hid (oneB k x = ((x : Int) == (k : Int))) := Lib.hid (by unfold oneB; rw [Bool.eq_iff_iff]; simp; omega)
 generalize oneB k x = b at *
 go_enter Try.func77, Try.ntmps77
 go_wp2_with fail
 go_ret
 exact ⟨ret_bool F.out.symm, rfl⟩
theorem call_find1 (args : Array Value) (W : World) : Sem.run Try.prog (callFunc 77 args) W = .ok (.enter 77 args) W := by kernel_rfl
theorem Ok.keep {D M : Nat} {m : List (List Nat)} (h : Ok D M m) (p : Nat → Bool) : Okq D M (szL m) (keepL m p) :=
 ⟨h.d1, h.d8, h.m4, by rw [keepL_len]; exact h.len, h.s1, h.s64, fun l hl => by
  simp only [keepL, List.mem_map, List.mem_range] at hl
  obtain ⟨i, hi, rfl⟩ := hl
  split
  ·exact .inl rfl
  ·obtain ⟨z, hz⟩ := get_some hi
   rw [getD_of hz]; exact h.each z (List.mem_of_getElem? hz)⟩
end Go.Proofs.Ytapehckcmmompaa
namespace Go.Proofs.Ytapehckcmmompaa
open Go.ChangeShapes Go.WideShapes Go.ChangeAt Go.RowKit Gf
set_option linter.unusedVariables false
set_option maxRecDepth 100000
attribute [local go_sem ↓] Go.wp_at_zero Go.wp_at_succ
theorem fndTo_le (D M : Nat) (m : List (List Nat)) (k : Nat) : (fndTo D M m k).1 ≤ k ∧ (fndTo D M m k).2 ≤ k := by
 induction k with
 | zero => exact ⟨Nat.le_refl _, Nat.le_refl _⟩
 | succ k ih =>
  simp only [fndTo]
  split
  ·exact ⟨by simp, by simp; omega⟩
  ·omega
set_option maxHeartbeats 2000000 in
theorem find_calls (D M : Int) (A : Option Addr) (c B : Nat) (m : List (List Nat)) (w : World) (hn : m.length ≤ c) (hc : c ≤ 9223372036854775807) (hs : RMA B w A m) :
  Calls Try.prog 59 #[Sv D M (.slice A m.length c)] w fun e w' => e = .returned (.tuple #[.int .i64 (fndV D M m).1, .int .i64 (fndV D M m).2]) ∧ Below w.heap.size w w' := by
 have HS := Lib.hid hs
 clear hs
 have CC := Lib.hid (fun W (h : RMA B W A m) => check_calls D M A c B m W hn hc h)
 have LC := Lib.hid (fun W (h : RMA B W A m) => lost_calls D M A c B m W hn hc h)
 by_cases ck : chkE D M m = 0
 ·obtain ⟨OKS, hD, hM⟩ := chkE_ok ck
  have F0 : Hid (fndV D M m = if 0 < lostN m then ((0 : Int), (2 : Int)) else if sndB D.toNat M.toNat m then ((-1 : Int), (0 : Int)) else if (fndTo D.toNat M.toNat m m.length).2 ≠ 1 then ((0 : Int), (6 : Int)) else (((fndTo D.toNat M.toNat m m.length).1 : Int), (0 : Int))) := Lib.hid (by unfold fndV; rw [if_neg (by rw [ck]; decide)])
  generalize fndV D M m = fv at *
  generalize D.toNat = D' at *
  generalize M.toNat = M' at *
  subst hD hM
  have SC := Lib.hid (fun W (h : RMA B W A m) => sound_calls A c B D' M' (szL m) m W hn hc h OKS.q)
  have RC := Lib.hid (fun k W A' c' (k1 : (keepL m (oneB k)).length ≤ c') (k2 : c' ≤ 9223372036854775807) (h : RMA w.heap.size W A' (keepL m (oneB k))) => restored_calls A' c' w.heap.size D' M' (szL m) (keepL m (oneB k)) W k1 k2 h (OKS.keep _))
  have hm12 : m.length ≤ 12 := by have := OKS.len; have := OKS.d8; have := OKS.m4; omega
  have LE : Hid (∀ l ∈ m, l.length ≤ 100) := Lib.hid (fun l hl => by have h := OKS.each l hl; have := OKS.s64; omega)
  simp only [keepL_len] at RC
  rw [ck] at CC
  have FT : Hid (∀ k, fndTo D' M' m (k + 1) = if rstE D' M' (keepL m (oneB k)) = 0 then (k, (fndTo D' M' m k).2 + 1) else fndTo D' M' m k) := Lib.hid (fun k => rfl)
  have FL := Lib.hid (fun k => fndTo_le D' M' m k)
  generalize lostN m = z at *
  generalize sndB D' M' m = sb at *
  clear ck OKS
  go_enter Try.func59, Try.ntmps59
  go_wp2_with fail
  refine (CC.out _ (HS.out.next (Bal (Below.refl _ _) _))).mono ?_
  rintro e w1 ⟨rfl, hb1⟩
  have N1 : Hid (Below w.heap.size w w1) := Lib.hid (Bgo (Bal (Below.refl _ _) _) hb1)
  have SB1 : Hid (w1.heap[w.heap.size]? = some (.cells #[.int .i64 D', .int .i64 M', .slice A m.length c] 54)) := Lib.hid (blk_next hb1 (blk_new w _))
  have s0 : w1.cell? ⟨w.heap.size, 0, none⟩ = some (.int .i64 D') := blk_cell SB1.out 0 _ rfl
  have s1 : w1.cell? ⟨w.heap.size, 1, none⟩ = some (.int .i64 M') := blk_cell SB1.out 1 _ rfl
  have s2 : w1.cell? ⟨w.heap.size, 2, none⟩ = some (.slice A m.length c) := blk_cell SB1.out 2 _ rfl
  clear hb1
  go_wp2_with fail
  refine (LC.out _ (HS.out.next N1.out)).mono ?_
  rintro e w2 ⟨rfl, hb2⟩
  have N2 : Hid (Below w.heap.size w w2) := Lib.hid (Bgo N1.out hb2)
  have SB2 := Lib.hid (blk_next hb2 SB1.out)
  clear hb2 s0 s1 s2 N1 SB1
  by_cases hz : 0 < z
  ·have FF : Hid (fv = (0, 2)) := Lib.hid (by rw [F0.out, if_pos hz])
   go_wp2_with fail
   go_ret2
   exact ⟨by rw [FF.out]; rfl, N2.out⟩
  ·have F1 : Hid (fv = if sb then ((-1 : Int), (0 : Int)) else if (fndTo D' M' m m.length).2 ≠ 1 then ((0 : Int), (6 : Int)) else (((fndTo D' M' m m.length).1 : Int), (0 : Int))) := Lib.hid (by rw [F0.out, if_neg hz])
   have s0 : w2.cell? ⟨w.heap.size, 0, none⟩ = some (.int .i64 D') := blk_cell SB2.out 0 _ rfl
   have s1 : w2.cell? ⟨w.heap.size, 1, none⟩ = some (.int .i64 M') := blk_cell SB2.out 1 _ rfl
   have s2 : w2.cell? ⟨w.heap.size, 2, none⟩ = some (.slice A m.length c) := blk_cell SB2.out 2 _ rfl
   go_wp2_with fail
   refine (SC.out _ (HS.out.next N2.out)).mono ?_
   rintro e w3 ⟨rfl, hb3⟩
   have N3 : Hid (Below w.heap.size w w3) := Lib.hid (Bgo N2.out hb3)
   have SB3 := Lib.hid (blk_next hb3 SB2.out)
   clear hb3 s0 s1 s2 N2 SB2 F0
   cases sb
   ·have F2 : Hid (fv = if (fndTo D' M' m m.length).2 ≠ 1 then ((0 : Int), (6 : Int)) else (((fndTo D' M' m m.length).1 : Int), (0 : Int))) := Lib.hid F1.out
    clear F1
    have s2 : w3.cell? ⟨w.heap.size, 2, none⟩ = some (.slice A m.length c) := blk_cell SB3.out 2 _ rfl
    go_wp2_with fail
    clear s2
    go_loopw [5, 6, 24] (fun s5 s6 i wr => ∃ k : Nat, k ≤ m.length ∧ i = .int .i64 k ∧ s5 = .int .i64 ((fndTo D' M' m k).1 : Nat) ∧ s6 = .int .i64 ((fndTo D' M' m k).2 : Nat) ∧ Hid (Below w.heap.size w wr) ∧ Hid (wr.heap[w.heap.size]? = some (.cells #[.int .i64 D', .int .i64 M', .slice A m.length c] 54))) (fun _ _ i _ => m.length - (intOf i).toNat)
    case atStart => exact ⟨0, by omega, rfl, rfl, rfl, N3, SB3⟩
    case round =>
     clear N3 SB3
     obtain ⟨k, hk, rfl, rfl, rfl, N, SB⟩ := hrel
     have fl := FL.out k
     by_cases hlt : k < m.length
     ·have FK := Lib.hid (FT.out k)
      have KL : Hid ((keepL m (oneB k)).length = m.length) := Lib.hid (keepL_len _ _)
      have RK := Lib.hid (RC.out k)
      have WC : Hid (∀ W : World, Below w.heap.size w W → W.heap[wr.heap.size]? = some (.cells #[.int .i64 (k : Int)] 3) → Calls Try.prog 76 #[Sv D' M' (.slice A m.length c), .func (.func 77) #[] #[.pointer (some ⟨wr.heap.size, 0, none⟩)]] W (SPost W ((D' : Int), (M' : Int), keepL m (oneB k)))) := Lib.hid (fun W hW hk' => without_calls D' M' A c B 77 (.pointer (some ⟨wr.heap.size, 0, none⟩)) (oneB k) m W hn hc (by omega) (HS.out.next hW) LE.out call_find1 (fun W' hW' x hx => find1_calls x k wr.heap.size W' (blk_cell (blk_next hW' hk') 0 _ rfl)))
      have s0 : wr.cell? ⟨w.heap.size, 0, none⟩ = some (.int .i64 D') := blk_cell SB.out 0 _ rfl
      have s1 : wr.cell? ⟨w.heap.size, 1, none⟩ = some (.int .i64 M') := blk_cell SB.out 1 _ rfl
      have s2 : wr.cell? ⟨w.heap.size, 2, none⟩ = some (.slice A m.length c) := blk_cell SB.out 2 _ rfl
      have hz0 : w.heap.size < wr.heap.size := blk_lt SB.out
      generalize keepL m (oneB k) = kl at *
      generalize hft : fndTo D' M' m k = ft at *
      obtain ⟨fa, fb⟩ := ft
      have HFT := Lib.hid hft
      clear hft
      go_wp2_with fail
      refine (WC.out _ (Bal N.out _) (blk_new _ _)).mono ?_
      rintro e w4 ⟨v, rfl, ⟨us, ho⟩, hb4⟩
      obtain ⟨Av, cv, rfl, hv1, hv2, _⟩ := own_form ho.top
      have N4 := Lib.hid (Bgo (Bal N.out _) hb4)
      have SB4 := Lib.hid (blk_next hb4 (blk_alloc SB.out _))
      have KB4 : Hid (w4.heap[wr.heap.size]? = some (.cells #[.int .i64 (k : Int)] 3)) := Lib.hid (blk_next hb4 (blk_new wr _))
      have RO : Hid (RMA w.heap.size w4 Av kl) := Lib.hid ((ho.mono (B' := w.heap.size) (Nat.le_trans N.out.size (by simp))).rma)
      rw [show ((D' : Int), (M' : Int), kl).2.2.length = m.length from KL.out] at hv1
      simp only [KL.out]
      clear ho hb4 s0 s1 s2
      go_wp2_with fail
      refine (RK.out _ Av cv hv1 hv2 (RO.out.next (Bal (Below.refl _ _) _))).mono ?_
      generalize rstE D' M' kl = er at *
      generalize rstS D' M' kl = rs at *
      obtain ⟨r1, r2, r3⟩ := rs
      rintro e w5 ⟨v5, rfl, ⟨us5, ho5⟩, hb5⟩
      obtain ⟨A5, c5, rfl, _, _, _⟩ := own_form ho5.top
      have N5 := Lib.hid (Bgo (Bal N4.out _) hb5)
      have SB5 := Lib.hid (blk_next hb5 (blk_alloc SB4.out _))
      have KB5 : Hid (w5.heap[wr.heap.size]? = some (.cells #[.int .i64 (k : Int)] 3)) := Lib.hid (blk_next hb5 (blk_alloc KB4.out _))
      have kc : w5.cell? ⟨wr.heap.size, 0, none⟩ = some (.int .i64 (k : Int)) := blk_cell KB5.out 0 _ rfl
      have hz5 : wr.heap.size < w5.heap.size := blk_lt KB5.out
      clear ho5 hb5
      by_cases he : er = 0
      ·have q : (er == 0) = true := by rw [he]; rfl
       have FK2 : Hid (fndTo D' M' m (k + 1) = (k, fb + 1)) := Lib.hid (by rw [FK.out, if_pos he])
       clear he
       go_wp2_with fail
       refine ⟨⟨k + 1, by omega, by go_num, ?_, ?_, Lib.hid (Bal N5.out _), Lib.hid (blk_alloc SB5.out _)⟩, by simp [intOf]; omega⟩
       ·rw [FK2.out]
       ·rw [FK2.out]; go_num
      ·have q : (er == 0) = false := by rw [beq_eq_false_iff_ne]; exact he
       have FK2 : Hid (fndTo D' M' m (k + 1) = (fa, fb)) := Lib.hid (by rw [FK.out, if_neg he])
       clear he
       go_wp2_with fail
       refine ⟨⟨k + 1, by omega, by go_num, ?_, ?_, Lib.hid (Bal N5.out _), Lib.hid (blk_alloc SB5.out _)⟩, by simp [intOf]; omega⟩
       ·rw [FK2.out]
       ·rw [FK2.out]
     ·obtain rfl : k = m.length := by omega
      generalize (fndTo D' M' m m.length).1 = fa at *
      generalize (fndTo D' M' m m.length).2 = fb at *
      by_cases h1 : fb = 1
      ·have q : ((fb : Int) != 1) = false := by rw [h1]; rfl
       have FF : Hid (fv = ((fa : Int), (0 : Int))) := Lib.hid (by rw [F2.out, if_neg (by omega)])
       clear h1
       go_wp2_with fail
       go_ret2
       exact ⟨by rw [FF.out]; rfl, N.out⟩
      ·have q : ((fb : Int) != 1) = true := by rw [bne_iff_ne]; omega
       have FF : Hid (fv = ((0 : Int), (6 : Int))) := Lib.hid (by rw [F2.out, if_pos h1])
       clear h1
       go_wp2_with fail
       go_ret2
       exact ⟨by rw [FF.out]; rfl, N.out⟩
   ·have FF : Hid (fv = (-1, 0)) := Lib.hid F1.out
    go_wp2_with fail
    go_ret2
    exact ⟨by rw [FF.out]; rfl, N3.out⟩
 ·have FF : Hid (fndV D M m = ((0 : Int), chkE D M m)) := Lib.hid (by unfold fndV; rw [if_pos ck])
  have q : (chkE D M m != 0) = true := by rw [bne_iff_ne]; exact ck
  rw [FF.out]
  generalize chkE D M m = er at *
  clear ck FF
  go_enter Try.func59, Try.ntmps59
  go_wp2_with fail
  refine (CC.out _ (HS.out.next (Bal (Below.refl _ _) _))).mono ?_
  rintro e w1 ⟨rfl, hb1⟩
  go_wp2_with fail
  go_ret2
  exact ⟨rfl, Bgo (Bal (Below.refl _ _) _) hb1⟩
end Go.Proofs.Ytapehckcmmompaa
namespace Go.Proofs.Ytapehckcmmompaa
open Go.ChangeShapes Go.WideShapes Go.ChangeAt Go.RowKit Gf
set_option linter.unusedVariables false
set_option maxRecDepth 100000
attribute [local go_sem ↓] Go.wp_at_zero Go.wp_at_succ
theorem own_blk {W : World} {g base n : Nat} {cs : Array Value} {e : TypeId} (h : W.heap[g]? = some (.cells cs e)) (hb : base ≤ g) (hn : cs.size = n) (hm : n ≤ 1000) : W.ownsRow base e 1 (.slice (some ⟨g, 0, none⟩) n n) n cs.toList := by
 subst hn
 exact ⟨by simp, .inr ⟨g, cs.size, cs, rfl, hb, h, Nat.le_refl _, by simp only [maxLen]; omega, by omega, by rw [Nat.mul_one]; exact List.take_of_length_le (by simp)⟩⟩
theorem ob_one {W : World} {g base x : Nat} (h : W.heap[g]? = some (.cells #[.int .u8 (x : Int)] 5)) (hb : base ≤ g) : OB base W (.slice (some ⟨g, 0, none⟩) 1 1) [x] := own_blk h hb rfl (by omega)
theorem byt_one {x : Nat} (h : x < 256) : Byt [x] := fun y hy => by simp at hy; omega
theorem omx_of {W : World} {base : Nat} {v : Value} {us : List Value} {gs : List Nat} {m : List (List Nat)} (ht : W.ownsRow base 26 1 v m.length us) (hg : us.map Value.ownBlock = gs.map some) (hn : gs.Nodup)
  (hr : ∀ (i : Nat) (u : Value) (l : List Nat), us[i]? = some u → m[i]? = some l → OB base W u l) (hb : ∀ l ∈ m, Byt l) : OMx base W v us m := by
 refine ⟨ht, hr, hb, fun i j u u' hu hu' hij => .inr fun e => ?_⟩
 have h1 : (us.map Value.ownBlock)[i]? = some u.ownBlock := by rw [List.getElem?_map, hu]; rfl
 have h2 : (us.map Value.ownBlock)[j]? = some u'.ownBlock := by rw [List.getElem?_map, hu']; rfl
 rw [hg, List.getElem?_map] at h1 h2
 obtain ⟨a, ha, ea⟩ := Option.map_eq_some_iff.1 h1
 obtain ⟨b, hb', eb⟩ := Option.map_eq_some_iff.1 h2
 rw [← ea, ← eb] at e
 injection e with e
 subst e
 have li := get_lt ha
 have lj := get_lt hb'
 rw [List.getElem?_eq_getElem li] at ha
 rw [List.getElem?_eq_getElem lj] at hb'
 injection ha with ha
 injection hb' with hb'
 have np := List.pairwise_iff_getElem.1 hn
 rcases Nat.lt_or_gt_of_ne hij with h | h
 ·exact np i j li lj h (by rw [ha, hb'])
 ·exact np j i lj li h (by rw [ha, hb'])
theorem ex1 : encE [[1], [2]] 1 = 0 ∧ encS [[1], [2]] 1 = (2, 1, [[1], [2], [123]]) := by decide +kernel
theorem ex2 : loseE 2 1 [[1], [2], [123]] [0] = 0 ∧ loseS 2 1 [[1], [2], [123]] [0] = (2, 1, [[], [2], [123]]) := by decide +kernel
theorem ex3 : resE 2 1 [[], [2], [123]] = 0 ∧ resS 2 1 [[], [2], [123]] = (2, 1, [[1], [2], [123]]) := by decide +kernel
theorem ex4 : invVal 2 = 142 ∧ invErr 2 = 0 ∧ invVal 3 = 244 ∧ invErr 3 = 0 ∧ gm 2 128 = 29 ∧ gm 244 2 = 245 := by decide +kernel
theorem rb_blk {W : World} {g n : Nat} {cs : Array Value} (l : List Nat) (h : W.heap[g]? = some (.cells cs 5)) (e : cs.toList = bv l) (hn : l.length = n) (hl : Byt l) (hm : n ≤ 1000) : RB 0 W (.slice (some ⟨g, 0, none⟩) n n) l := by
 subst hn
 have hs : cs.size = l.length := by have := congrArg List.length e; rw [bv_len] at this; simpa using this
 have := own_blk (base := 0) h (by omega) hs hm
 rw [e] at this
 exact OB.rb this hl
theorem rma_blk {W : World} {g : Nat} {cs : Array Value} (m : List (List Nat)) (h : W.heap[g]? = some (.cells cs 26)) (hn : cs.size = m.length) (hm : m.length ≤ 1000) (hr : ∀ (i : Nat) (u : Value) (l : List Nat), cs.toList[i]? = some u → m[i]? = some l → RB 0 W u l) : RMA 0 W (some ⟨g, 0, none⟩) m :=
 ⟨cs.toList, by simpa using hn, Hd.of_own (own_blk (base := 0) h (by omega) hn hm), hr⟩
theorem ri_blk {W : World} {g : Nat} {cs : Array Value} (l : List Int) (h : W.heap[g]? = some (.cells cs 3)) (e : cs.toList = ivI l) (hm : l.length ≤ 1000) : RI 0 W (some ⟨g, 0, none⟩) l := by
 have hs : cs.size = l.length := by have := congrArg List.length e; simpa [ivI] using this
 have := own_blk (base := 0) h (by omega) hs hm
 rw [e] at this
 exact Hd.of_own this
end Go.Proofs.Ytapehckcmmompaa
namespace Go.Proofs.Ytapehckcmmompaa
open Go.ChangeShapes Go.WideShapes Go.ChangeAt Go.RowKit Gf
set_option linter.unusedVariables false
set_option maxRecDepth 100000
set_option linter.unusedSimpArgs false
attribute [local go_sem ↓] Go.wp_at_zero Go.wp_at_succ
def rsB (D M : Nat) (m : List (List Nat)) : Bool := decide (lostN m = 0) && decide (enc (m.take D) M = m)
theorem lost_none {m : List (List Nat)} (h : lostN m = 0) : ∀ l ∈ m, l.length ≠ 0 := by
 induction m with
 | nil => intro l hl; cases hl
 | cons x m ih =>
  simp only [lostN] at h
  intro l hl
  rcases List.mem_cons.1 hl with rfl | hl
  ·intro e; rw [if_pos e] at h; omega
  ·exact ih (by omega) l hl
theorem dataL_whole {D M : Nat} {m : List (List Nat)} (h : lostN m = 0) (hD : D ≤ m.length) : dataL D M m = m.take D := by
 apply List.ext_getElem?
 intro i
 by_cases hi : i < D
 ·obtain ⟨l, hl⟩ := get_some (show i < m.length by omega)
  rw [dataL_at hi, getD_of hl, if_neg (lost_none h l (List.mem_of_getElem? hl)), List.getElem?_take, if_pos hi, hl]
 ·rw [List.getElem?_eq_none (by rw [dataL_len]; omega), List.getElem?_eq_none (by rw [List.length_take]; omega)]
theorem fitB_whole {m r : List (List Nat)} (h : lostN m = 0) (hl : m.length = r.length) : fitB m r = decide (r = m) := by
 by_cases e : r = m
 ·rw [decide_eq_true e, fitB_true hl (fun j l l' h1 h2 => .inr (by rw [e, h1] at h2; injection h2))]
 ·rw [decide_eq_false e]
  cases hf : fitB m r with
  | false => rfl
  | true =>
   refine absurd (List.ext_getElem? fun i => ?_) e
   by_cases hi : i < m.length
   ·obtain ⟨l, h1⟩ := get_some hi
    obtain ⟨l', h2⟩ := get_some (show i < r.length by omega)
    rcases fitB_out hf h1 h2 with h3 | h3
    ·exact absurd h3 (lost_none h l (List.mem_of_getElem? h1))
    ·rw [h1, h2, h3]
   ·rw [List.getElem?_eq_none (by omega), List.getElem?_eq_none (by omega)]
theorem sndB_eq {D M : Nat} {m : List (List Nat)} (h : Ok D M m) : sndB D M m = rsB D M m := by
 unfold sndB rsB
 by_cases hz : lostN m = 0
 ·have hl := h.len
  rw [decide_eq_true hz, Bool.true_and, Bool.true_and]
  unfold rstE
  rw [if_neg (by omega), dataL_whole hz (by omega), fitB_whole hz (by rw [enc_len, List.length_take]; omega)]
  by_cases e : enc (m.take D) M = m
  ·rw [decide_eq_true e, if_pos rfl]; rfl
  ·rw [decide_eq_false e, if_neg (by decide)]; rfl
 ·rw [decide_eq_false hz, Bool.false_and, Bool.false_and]
theorem RMA.take_ {B : Nat} {w : World} {A : Option Addr} {m : List (List Nat)} (h : RMA B w A m) (k : Nat) : RMA B w A (m.take k) := by
 obtain ⟨us, h1, h2, h3⟩ := h
 refine ⟨us.take k, by rw [List.length_take, List.length_take, h1], h2.take_ k, fun i u l hu hl => ?_⟩
 rw [List.getElem?_take] at hu hl
 split at hu
 ·rename_i hi
  rw [if_pos hi] at hl
  exact h3 i u l hu hl
 ·cases hu
theorem skip_op {P : Program} {ops : Array Oper} {Q : Exit → Act → World → Prop} {md : Region.Mode} {S : World → Prop} {oi : Oper} {fuel : Nat} {listed : Array Bool} {a : Act} {w : World} (i : Nat) (hi : ops[i]? = some oi)
  (hs : Region.noSelect ops = true) (hf : Region.free md ops listed i = true) (hr : (Region.ready md ops listed).contains i = true) (hw : Region.wanted oi (yielded ops a.tmps) = false) (ha : a.put oi.dst undef = a)
  (hQ : ∀ c a w, Q (.panic c) (a.put oi.dst undef) w → Q (.panic c) a w) (hS : S w) (h : wpAnyH P md ops Q S fuel (listed.setIfInBounds i true) a w) : wpAnyH P md ops Q S (fuel + 1) listed a w :=
 wpAnyH_take hi hs hf hr hQ (Or.inr ⟨hw, rfl⟩) hS (by rw [ha]; exact h)
theorem take_op {P : Program} {ops : Array Oper} {Q : Exit → Act → World → Prop} {md : Region.Mode} {S : World → Prop} {oi : Oper} {fuel : Nat} {listed : Array Bool} {a : Act} {w : World} (i : Nat) (v : Value) (d : Option Nat) (hi : ops[i]? = some oi)
  (hs : Region.noSelect ops = true) (hf : Region.free md ops listed i = true) (hr : (Region.ready md ops listed).contains i = true) (hd : oi.dst = d)
  (hQ : ∀ c a w, Q (.panic c) (a.put oi.dst v) w → Q (.panic c) a w) (hy : YieldsIf P ops S oi v a) (hS : S w) (h : wpAnyH P md ops Q S fuel (listed.setIfInBounds i true) (a.put d v) w) : wpAnyH P md ops Q S (fuel + 1) listed a w :=
 wpAnyH_take hi hs hf hr hQ hy hS (by rw [hd]; exact h)
set_option maxHeartbeats 2000000 in
theorem refSnd_calls (A : Option Addr) (c B D M : Nat) (m : List (List Nat)) (w : World) (hn : m.length ≤ c) (hc : c ≤ 9223372036854775807) (hs : RMA B w A m) (hok : Ok D M m) :
  Calls Try.prog 80 #[Sv D M (.slice A m.length c)] w fun e w' => e = .returned (.bool (rsB D M m)) ∧ Below w.heap.size w w' := by
 have HS := Lib.hid hs
 have hl := hok.len
 have h12 : m.length ≤ 12 := by have := hok.d8; have := hok.m4; omega
 have WC := Lib.hid (fun W (h : RMA B W A m) => refWhole_calls D M A c B m W hn hc (by omega) h)
 have F : Hid (rsB D M m = (decide (lostN m = 0) && decide (enc (m.take D) M = m))) := Lib.hid rfl
 have D1 := hok.d1
 by_cases hz : lostN m = 0
 ·have LT : Hid (∀ l ∈ m.take D, l.length = szL m) := Lib.hid (fun l hl' => by
   have hm := List.mem_of_mem_take hl'
   rcases hok.each l hm with h | h
   ·exact absurd h (lost_none hz l hm)
   ·exact h)
  have LD : (m.take D).length = D := by rw [List.length_take]; omega
  have MC : Hid (∀ W : World, RMA B W A m → Calls Try.prog 65 #[.slice A D c, .int .i64 M] W (fun e w' => ∃ v, e = .returned (Sv D M v) ∧ OM W.heap.size w' v (enc (m.take D) M) ∧ Below W.heap.size W w')) := Lib.hid (fun W h => by
   have := refMade_calls A c B (m.take D) M (szL m) W (by omega) hc (h.take_ D) (by omega) (by have := hok.d8; omega) hok.m4 hok.s64 LT.out
   unfold EncPost at this
   rw [LD] at this
   exact this)
  have EL : Hid ((enc (m.take D) M).length = m.length) := Lib.hid (by rw [enc_len, LD]; omega)
  have SC : Hid (∀ (W : World) (A' : Option Addr) (c' : Nat), m.length ≤ c' → c' ≤ 9223372036854775807 → RMA 0 W A' (enc (m.take D) M) → RMA B W A m → Calls Try.prog 87 #[Sv D M (.slice A' m.length c'), Sv D M (.slice A m.length c)] W fun e w' => e = .returned (.bool (rsB D M m)) ∧ Below W.heap.size W w') := Lib.hid (fun W A' c' h1 h2 h3 h4 => by
   have := refSame_calls D M A' c' 0 (enc (m.take D) M) D M A c B m W (by rw [EL.out]; exact h1) h2 h3 hn hc h4
   rw [EL.out] at this
   have e : decide (((D : Int), (M : Int), enc (m.take D) M) = ((D : Int), (M : Int), m)) = rsB D M m := by
    rw [F.out, decide_eq_true hz, Bool.true_and, Bool.eq_iff_iff]
    simp only [decide_eq_true_eq, Prod.mk.injEq, true_and]
   rw [e] at this
   exact this)
  rw [decide_eq_true hz] at WC
  obtain ⟨l0, hl0⟩ := get_some (show 0 < m.length by omega)
  obtain ⟨bb, off, _, _, rfl, _, _, _, _, _⟩ := hs.at_ hl0
  generalize rsB D M m = sb at *
  generalize enc (m.take D) M = en at *
  have hDc : D ≤ c := by omega
  clear hz hs hok LT F LD hl0 hl
  go_enter Try.func80, Try.ntmps80
  go_upto_region 1 with fail
  have KEEP : Hid (∀ X : World, Below (w.alloc (.cells #[.int .i64 D, .int .i64 M, .slice (some ⟨bb, off, none⟩) m.length c] 54)).heap.size (w.alloc (.cells #[.int .i64 D, .int .i64 M, .slice (some ⟨bb, off, none⟩) m.length c] 54)) X → X.cell? ⟨w.heap.size, 0, none⟩ = some (.int .i64 D) ∧ X.cell? ⟨w.heap.size, 1, none⟩ = some (.int .i64 M) ∧ X.cell? ⟨w.heap.size, 2, none⟩ = some (.slice (some ⟨bb, off, none⟩) m.length c)) := Lib.hid (fun X hX => box3 (blk_next hX (blk_new w _)))
  have RSX : Hid (∀ X : World, Below (w.alloc (.cells #[.int .i64 D, .int .i64 M, .slice (some ⟨bb, off, none⟩) m.length c] 54)).heap.size (w.alloc (.cells #[.int .i64 D, .int .i64 M, .slice (some ⟨bb, off, none⟩) m.length c] 54)) X → RMA B X (some ⟨bb, off, none⟩) m ∧ Below w.heap.size w X) := Lib.hid (fun X hX => ⟨HS.out.next (Bgo (Bal (Below.refl _ _) _) hX), Bgo (Bal (Below.refl _ _) _) hX⟩)
  generalize w.alloc (.cells #[.int .i64 D, .int .i64 M, .slice (some ⟨bb, off, none⟩) m.length c] 54) = W0 at *
  obtain ⟨k1, k2, k3⟩ := KEEP.out W0 (Below.refl _ _)
  go_region_held3 (fun X => X.cell? ⟨w.heap.size, 0, none⟩ = some (.int .i64 D) ∧ X.cell? ⟨w.heap.size, 1, none⟩ = some (.int .i64 M) ∧ X.cell? ⟨w.heap.size, 2, none⟩ = some (.slice (some ⟨bb, off, none⟩) m.length c))
   (first | (with_reducible exact KEEP.out _ BS.out) | (with_reducible exact KEEP.out _ BM.out) | (with_reducible exact KEEP.out _ BW.out) | (with_reducible exact KEEP.out _ (Below.refl _ _)) | (with_reducible exact KEEP.out _ BS.out.drew) | (with_reducible exact KEEP.out _ BM.out.drew) | (with_reducible exact KEEP.out _ BW.out.drew) | (with_reducible exact KEEP.out _ (Below.refl _ _).drew))
   (first
    | (go_at_call 79; refine (WC.out _ ?_).mono ?_; (first | (with_reducible exact (RSX.out _ (Below.refl _ _)).1) | (with_reducible exact (RSX.out _ (Below.refl _ _).drew).1)); rintro e ww ⟨rfl, bw⟩; have BW : Hid (Below W0.heap.size W0 ww) := Lib.hid (by first | (with_reducible exact bw) | (with_reducible exact undrewB bw)); clear bw)
    | (go_at_call 65; refine (MC.out _ ?_).mono ?_; (first | (with_reducible exact (RSX.out _ BW.out).1) | (with_reducible exact (RSX.out _ BW.out.drew).1)); rintro e wm ⟨vm, rfl, ⟨um, om⟩, bm⟩; obtain ⟨Am, cm, rfl, hm1, hm2, _⟩ := own_form om.top; rw [EL.out] at hm1; rw [EL.out]; have BM : Hid (Below W0.heap.size W0 wm) := Lib.hid (by first | (with_reducible exact Bgo BW.out bm) | (with_reducible exact Bgo BW.out (undrewB bm))); have OM_ := Lib.hid (om.rma.mono (B' := 0) (by omega)); clear bm om)
    | (go_at_call 87; refine (SC.out _ Am cm hm1 hm2 ?_ ?_).mono ?_; (first | (with_reducible exact OM_.out) | (with_reducible exact OM_.out.next (Below.refl _ _).drew)); (first | (with_reducible exact (RSX.out _ BM.out).1) | (with_reducible exact (RSX.out _ BM.out.drew).1)); rintro e ws ⟨rfl, bs⟩; have BS : Hid (Below W0.heap.size W0 ws) := Lib.hid (by first | (with_reducible exact Bgo BM.out bs) | (with_reducible exact Bgo BM.out (undrewB bs))); clear bs))
  go_wp2_with fail
  go_ret
  exact ⟨rfl, (RSX.out _ BS.out).2⟩
 ·rw [decide_eq_false hz] at WC
  rw [F.out, decide_eq_false hz, Bool.false_and]
  clear hz F hok hl h12 D1
  go_enter Try.func80, Try.ntmps80
  go_upto_region 1 with fail
  have KEEP : Hid (∀ X : World, Below (w.alloc (.cells #[.int .i64 D, .int .i64 M, .slice A m.length c] 54)).heap.size (w.alloc (.cells #[.int .i64 D, .int .i64 M, .slice A m.length c] 54)) X → X.cell? ⟨w.heap.size, 0, none⟩ = some (.int .i64 D) ∧ X.cell? ⟨w.heap.size, 1, none⟩ = some (.int .i64 M) ∧ X.cell? ⟨w.heap.size, 2, none⟩ = some (.slice A m.length c)) := Lib.hid (fun X hX => box3 (blk_next hX (blk_new w _)))
  have RSX : Hid (∀ X : World, Below (w.alloc (.cells #[.int .i64 D, .int .i64 M, .slice A m.length c] 54)).heap.size (w.alloc (.cells #[.int .i64 D, .int .i64 M, .slice A m.length c] 54)) X → RMA B X A m ∧ Below w.heap.size w X) := Lib.hid (fun X hX => ⟨HS.out.next (Bgo (Bal (Below.refl _ _) _) hX), Bgo (Bal (Below.refl _ _) _) hX⟩)
  generalize w.alloc (.cells #[.int .i64 D, .int .i64 M, .slice A m.length c] 54) = W0 at *
  obtain ⟨k1, k2, k3⟩ := KEEP.out W0 (Below.refl _ _)
  refine wp_region_held_drew (S := (fun X => X.cell? ⟨w.heap.size, 0, none⟩ = some (.int .i64 D) ∧ X.cell? ⟨w.heap.size, 1, none⟩ = some (.int .i64 M) ∧ X.cell? ⟨w.heap.size, 2, none⟩ = some (.slice A m.length c))) (by kernel_rfl) (KEEP.out _ (Below.refl _ _).drew) (fun hHeld => ?_)
  refine take_op 0 (Sv D M (.slice A m.length c)) (some 3) rfl (by kernel_rfl) (by kernel_rfl) (by kernel_rfl) rfl (fun _ _ _ h => h) (Or.inl ⟨by rfl, ?_⟩) hHeld ?_
  ·intro X hX
   obtain ⟨x1, x2, x3⟩ := hX
   go_simp
  try simp only [Act.put, zA, zB, zC]
  refine wpAnyH_ready (rs := [1]) (by kernel_rfl) (by simp) (AllReadyH.cons rfl (fun K hK => ?_) AllReadyH.nil)
  go_simp
  refine (WC.out _ ?_).mono ?_
  ·with_reducible exact (RSX.out _ (Below.refl _ _).drew).1
  rintro e ww ⟨rfl, bw⟩
  have BW : Hid (Below W0.heap.size W0 ww) := Lib.hid (undrewB bw)
  clear bw
  refine hK.out _ _ ?_ (fun hH => ?_)
  ·with_reducible exact KEEP.out _ BW.out
  clear hK K hHeld
  try simp only [Act.put, zA, zB, zC]
  refine take_op 2 (.bool false) (some 5) rfl (by kernel_rfl) (by kernel_rfl) (by kernel_rfl) rfl (fun _ _ _ h => h) (Or.inl ⟨by rfl, ?_⟩) hH ?_
  ·intro X hX
   go_simp
  try simp only [Act.put, zA, zB, zC]
  refine skip_op 3 rfl (by kernel_rfl) (by kernel_rfl) (by kernel_rfl) (by rfl) (by rfl) (fun _ _ _ h => h) hH ?_
  refine skip_op 4 rfl (by kernel_rfl) (by kernel_rfl) (by kernel_rfl) (by rfl) (by rfl) (fun _ _ _ h => h) hH ?_
  refine skip_op 5 rfl (by kernel_rfl) (by kernel_rfl) (by kernel_rfl) (by rfl) (by rfl) (fun _ _ _ h => h) hH ?_
  refine skip_op 6 rfl (by kernel_rfl) (by kernel_rfl) (by kernel_rfl) (by rfl) (by rfl) (fun _ _ _ h => h) hH ?_
  refine skip_op 7 rfl (by kernel_rfl) (by kernel_rfl) (by kernel_rfl) (by rfl) (by rfl) (fun _ _ _ h => h) hH ?_
  refine skip_op 8 rfl (by kernel_rfl) (by kernel_rfl) (by kernel_rfl) (by rfl) (by rfl) (fun _ _ _ h => h) hH ?_
  refine skip_op 9 rfl (by kernel_rfl) (by kernel_rfl) (by kernel_rfl) (by rfl) (by rfl) (fun _ _ _ h => h) hH ?_
  refine skip_op 10 rfl (by kernel_rfl) (by kernel_rfl) (by kernel_rfl) (by rfl) (by rfl) (fun _ _ _ h => h) hH ?_
  refine skip_op 11 rfl (by kernel_rfl) (by kernel_rfl) (by kernel_rfl) (by rfl) (by rfl) (fun _ _ _ h => h) hH ?_
  refine skip_op 12 rfl (by kernel_rfl) (by kernel_rfl) (by kernel_rfl) (by rfl) (by rfl) (fun _ _ _ h => h) hH ?_
  refine take_op 13 (.bool false) (some 16) rfl (by kernel_rfl) (by kernel_rfl) (by kernel_rfl) rfl (fun _ _ _ h => h) (Or.inl ⟨by rfl, ?_⟩) hH ?_
  ·intro X hX
   go_simp
  try simp only [Act.put, zA, zB, zC]
  refine take_op 14 (.bool false) (some 2) rfl (by kernel_rfl) (by kernel_rfl) (by kernel_rfl) rfl (fun _ _ _ h => h) (Or.inl ⟨by rfl, ?_⟩) hH ?_
  ·intro X hX
   go_simp
  try simp only [Act.put, zA, zB, zC]
  refine wpAnyH_done (by kernel_rfl) ?_ _
  go_wp2_with fail
  go_ret
  exact ⟨rfl, (RSX.out _ BW.out).2⟩
end Go.Proofs.Ytapehckcmmompaa
namespace Go.Proofs.Ytapehckcmmompaa
open Gf
set_option linter.unusedVariables false
set_option maxRecDepth 100000
theorem parTo_getD {d : List (List Nat)} {j t : Nat} (ht : t < (d.getD 0 []).length) : ∀ i, (parTo d j i).getD t 0 = sumN (fun k => gm (fac d.length j k) ((d.getD k []).getD t 0)) i
 | 0 => by
  have : (List.replicate (d.getD 0 []).length 0)[t]? = some 0 := by rw [List.getElem?_replicate, if_pos ht]
  rw [parTo, List.getD_eq_getElem?_getD, this]; rfl
 | i + 1 => by rw [parTo, addR_getD (by rw [parTo_len]; exact ht), parTo_getD ht i]; rfl
theorem synTo_getD {D : Nat} {m : List (List Nat)} {j t : Nat} (ht : t < (m.getD (D + j) []).length) : ∀ i, (synTo D m j i).getD t 0 = (m.getD (D + j) []).getD t 0 ^^^ sumN (fun k => gm (fac D j k) ((m.getD k []).getD t 0)) i
 | 0 => by simp [synTo, sumN]
 | i + 1 => by rw [synTo, addR_getD (by rw [synTo_len]; exact ht), synTo_getD ht i, Nat.xor_assoc]; rfl
theorem lostL_place {m : List (List Nat)} {n : Nat} (h0 : (m.getD n []).length = 0) : ∀ D, n < D → (lostL m D)[(lostL m n).length]? = some n
 | 0, h => by omega
 | D + 1, h => by
  rw [lostL_more]
  by_cases e : n = D
  ·subst e; rw [if_pos h0]; simp
  ·have ih := lostL_place h0 D (by omega)
   rw [List.getElem?_append_left (get_lt ih)]; exact ih
structure Fit (m r : List (List Nat)) : Prop where
 len : m.length = r.length
 each : ∀ i, (m.getD i []).length = 0 ∨ m.getD i [] = r.getD i []
theorem sum_lost {D j t : Nat} {m r : List (List Nat)} {x : Nat → Nat} (hf : ∀ i, i < D → (m.getD i []).length = 0 ∨ m.getD i [] = r.getD i []) (hx : ∀ i, i < D → (m.getD i []).length = 0 → x (lostL m i).length = (r.getD i []).getD t 0) :
  ∀ n, n ≤ D → sumN (fun k => gm (fac D j k) ((r.getD k []).getD t 0)) n ^^^ sumN (fun k => gm (fac D j k) ((m.getD k []).getD t 0)) n = sumN (fun k => gm (((lostL m n).map (fac D j)).getD k 0) (x k)) (lostL m n).length
 | 0, _ => by simp [sumN, lostL]
 | n + 1, h => by
  have ih := sum_lost hf hx n (by omega) (j := j)
  have e1 : sumN (fun k => gm (fac D j k) ((r.getD k []).getD t 0)) (n + 1) ^^^ sumN (fun k => gm (fac D j k) ((m.getD k []).getD t 0)) (n + 1) = (sumN (fun k => gm (fac D j k) ((r.getD k []).getD t 0)) n ^^^ sumN (fun k => gm (fac D j k) ((m.getD k []).getD t 0)) n) ^^^ (gm (fac D j n) ((r.getD n []).getD t 0) ^^^ gm (fac D j n) ((m.getD n []).getD t 0)) := by simp only [sumN]; ac_rfl
  rw [e1, ih, lostL_more]
  by_cases h0 : (m.getD n []).length = 0
  ·rw [if_pos h0, List.length_append, List.map_append]
   have em : m.getD n [] = [] := List.eq_nil_of_length_eq_zero h0
   show _ = sumN _ ((lostL m n).length + 1)
   simp only [sumN]
   congr 1
   ·refine sumN_congr fun k hk => ?_
    rw [List.getD_eq_getElem?_getD, List.getD_eq_getElem?_getD, List.getElem?_append_left (by simpa using hk)]
   ·rw [em, hx n (by omega) h0, List.getD_eq_getElem?_getD (l := List.map _ _ ++ _), List.getElem?_append_right (by simp)]
    simp [gm_zero_right]
  ·rw [if_neg h0, List.append_nil]
   have em : m.getD n [] = r.getD n [] := (hf n (by omega)).resolve_left h0
   rw [em, Nat.xor_self, Nat.xor_zero]
theorem okd_len {d : List (List Nat)} {q : Nat} (h : OkD d q) : (d.getD 0 []).length = q := len_getD h.each (by have := h.d1; omega)
theorem enc_lo {d : List (List Nat)} {M i : Nat} (hi : i < d.length) : (enc d M).getD i [] = d.getD i [] := by
 unfold enc
 rw [List.getD_eq_getElem?_getD, List.getElem?_append_left hi, ← List.getD_eq_getElem?_getD]
theorem enc_hi {d : List (List Nat)} {M j : Nat} (hj : j < M) : (enc d M).getD (d.length + j) [] = par d j := by
 unfold enc
 rw [List.getD_eq_getElem?_getD, List.getElem?_append_right (by omega)]
 simp [hj]
theorem par_len {d : List (List Nat)} {q : Nat} (h : OkD d q) (j : Nat) : (par d j).length = q := by unfold par; rw [parTo_len, okd_len h]
theorem enc_rows {d : List (List Nat)} {q : Nat} (h : OkD d q) (M : Nat) : ∀ l ∈ enc d M, l.length = q := fun l hl => by
 unfold enc at hl
 rcases List.mem_append.1 hl with h1 | h1
 ·exact h.each l h1
 ·obtain ⟨j, _, rfl⟩ := List.mem_map.1 h1
  exact par_len h j
theorem enc_byt {d : List (List Nat)} {q M : Nat} (h : OkD d q) (hb : ∀ l ∈ d, Byt l) (hM : M ≤ 4) : ∀ l ∈ enc d M, Byt l := fun l hl => by
 unfold enc at hl
 rcases List.mem_append.1 hl with h1 | h1
 ·exact hb l h1
 ·obtain ⟨j, hj, rfl⟩ := List.mem_map.1 h1
  exact parTo_byt h.d8 (by have := List.mem_range.1 hj; omega) _ (Nat.le_refl _)
theorem getD_lt_of {m : List (List Nat)} {i : Nat} (h : (m.getD i []).length ≠ 0) : i < m.length := by
 rcases Nat.lt_or_ge i m.length with h1 | h1
 ·exact h1
 ·rw [List.getD_eq_getElem?_getD, List.getElem?_eq_none h1] at h; exact absurd rfl h
theorem row_ext {a b : List Nat} {q : Nat} (ha : a.length = q) (hb : b.length = q) (h : ∀ t, t < q → a.getD t 0 = b.getD t 0) : a = b := by
 apply List.ext_getElem (by omega)
 intro t h1 h2
 have := h t (by omega)
 rw [List.getD_eq_getElem?_getD, List.getD_eq_getElem?_getD, List.getElem?_eq_getElem h1, List.getElem?_eq_getElem h2] at this
 exact this
theorem Fit.okq {d m : List (List Nat)} {q M : Nat} (h : OkD d q) (hM : M ≤ 4) (hf : Fit m (enc d M)) : Okq d.length M q m :=
 ⟨h.d1, h.d8, hM, by rw [hf.len, enc_len], h.n1, h.n64, fun l hl => by
  obtain ⟨i, hi, rfl⟩ := List.mem_iff_getElem.1 hl
  have e : m.getD i [] = m[i] := getD_of (List.getElem?_eq_getElem hi)
  rcases hf.each i with h1 | h1
  ·rw [e] at h1; exact .inl h1
  ·rw [e] at h1; rw [h1]; exact .inr (len_getD (enc_rows h M) (by rw [← hf.len]; exact hi))⟩
theorem data_back {d m : List (List Nat)} {q M : Nat} (h : OkD d q) (hb : ∀ l ∈ d, Byt l) (hM : M ≤ 4) (hf : Fit m (enc d M)) (hl : lostN m ≤ M) : dataL d.length M m = d := by
 have hq := hf.okq h hM
 have hok := hq.ok hl
 have hsz := hq.size hl
 have ce := cho_enough hok.len hl
 have d8 := h.d8
 have sr := solR_rows hok hl
 have lo : ∀ i, i < d.length → (m.getD i []).length = 0 ∨ m.getD i [] = d.getD i [] := fun i hi => by
  have := hf.each i
  rwa [enc_lo hi] at this
 have g4 : (goneL d.length m).length ≤ 4 := by
  have h1 : (goneL d.length m).length = lostN (m.take d.length) := lostL_count _ (by have := hok.len; omega)
  have := lost_split d.length m
  omega
 generalize hg : (goneL d.length m).length = g at *
 generalize hc : choTo d.length m g M = cho at *
 have cs : cho ∈ subs 4 g := by
  have := choTo_subs d.length m g M
  rw [hc, ce] at this
  exact subs_le this hM
 have gs : goneL d.length m ∈ subs d.length g := by
  have := lostL_subs m d.length
  unfold goneL at hg ⊢
  rwa [hg] at this
 obtain ⟨hu, _⟩ := allOk_out (all_ok h.d1 d8 g4) gs cs ce
 have em : matM d.length m cho = cauM d.length (goneL d.length m) cho := rfl
 have bM : ∀ l ∈ matM d.length m cho, Byt l := fun l hl => by
  simp only [matM, List.mem_map] at hl
  obtain ⟨j, hj, rfl⟩ := hl
  intro x hx
  obtain ⟨i, hi, rfl⟩ := List.mem_map.1 hx
  have hj' := ((choTo_le d.length m g M).2.2 j (by rw [hc]; exact hj)).1
  obtain ⟨k, hk⟩ := List.mem_iff_getElem?.1 hi
  have := (lostL_rank _ hk).1
  exact fac_lt (by omega) (by omega)
 have rR : ∀ l ∈ matR d.length m cho, l.length = q := fun l hl => by
  simp only [matR, List.mem_map] at hl
  obtain ⟨j, hj, rfl⟩ := hl
  obtain ⟨hj1, hj2⟩ := (choTo_le d.length m g M).2.2 j (by rw [hc]; exact hj)
  unfold syn
  rw [synTo_len]
  rcases hf.each (d.length + j) with h1 | h1
  ·exact absurd h1 hj2
  ·rw [h1, enc_hi hj1, par_len h]
 have key : ∀ i, i < d.length → (m.getD i []).length = 0 → (solR d.length M m).getD (lostL m i).length [] = d.getD i [] := fun i hi h0 => by
  have hlt : (lostL m i).length < g := by rw [← hg]; exact lostL_lt hi h0
  refine row_ext (q := q) (by rw [len_getD sr.2 (by rw [sr.1]; exact hlt)]; exact hsz) (len_getD h.each hi) fun t ht => ?_
  let x : Nat → Nat := fun k => (d.getD ((lostL m d.length).getD k 0) []).getD t 0
  have hx : ∀ k, x k < 256 := fun k => Byt.getD_ (rows_getD hb Byt.nil _) t
  have hxi : ∀ i, i < d.length → (m.getD i []).length = 0 → x (lostL m i).length = (d.getD i []).getD t 0 := fun i hi h0 => by
   show (d.getD ((lostL m d.length).getD _ 0) []).getD t 0 = _
   rw [List.getD_eq_getElem?_getD (l := lostL m d.length), lostL_place h0 _ hi]; rfl
  have so : Sol (matM d.length m cho) (matR d.length m cho) x t g := fun r hr => by
   obtain ⟨j, hj⟩ := get_some (show r < cho.length by rw [ce]; exact hr)
   obtain ⟨hj1, hj2⟩ := (choTo_le d.length m g M).2.2 j (by rw [hc]; exact List.mem_of_getElem? hj)
   have e1 : (matM d.length m cho).getD r [] = (goneL d.length m).map (fac d.length j) := getD_of (by simp [matM, hj])
   have e2 : (matR d.length m cho).getD r [] = syn d.length m j := getD_of (by simp [matR, hj])
   have e3 : m.getD (d.length + j) [] = par d j := by
    rcases hf.each (d.length + j) with h1 | h1
    ·exact absurd h1 hj2
    ·rw [h1, enc_hi hj1]
   rw [e1, e2]
   unfold syn
   rw [synTo_getD (by rw [e3, par_len h]; exact ht), e3]
   unfold par
   rw [parTo_getD (by rw [okd_len h]; exact ht)]
   rw [← hg]
   exact (sum_lost lo hxi _ (Nat.le_refl _)).symm
  have fin := gjTo_sol (by rw [matM_len, ce]) (by rw [matR_len, ce]) (fun l hl => by rw [← hg]; exact matM_rows _ _ _ l hl) rR bM hx ht so g (Nat.le_refl _)
  rw [gjTo_fst _ _ [], em, hu] at fin
  have := sol_unit hx fin hlt
  rw [hxi i hi h0] at this
  unfold solR
  rw [hg, hc]
  exact this
 apply List.ext_getElem?
 intro i
 by_cases hi : i < d.length
 ·rw [dataL_at hi, getD_get hi]
  by_cases h0 : (m.getD i []).length = 0
  ·rw [if_pos h0, key i hi h0]
  ·rw [if_neg h0, (lo i hi).resolve_left h0]
 ·rw [List.getElem?_eq_none (by rw [dataL_len]; omega), List.getElem?_eq_none (by omega)]
end Go.Proofs.Ytapehckcmmompaa
namespace Go.Proofs.Ytapehckcmmompaa
open Gf
set_option linter.unusedVariables false
set_option maxRecDepth 100000
theorem szL_rows {m : List (List Nat)} {q : Nat} (h : ∀ l ∈ m, l.length = q) (h0 : 0 < m.length) (hq : 1 ≤ q) : szL m = q := by
 obtain ⟨l, hl⟩ := get_some h0
 have e := h l (List.mem_of_getElem? hl)
 rw [szL_at hl (by omega) (fun j l' hj => by omega), e]
theorem lostN_rows {m : List (List Nat)} {q : Nat} (h : ∀ l ∈ m, l.length = q) (hq : 1 ≤ q) : lostN m = 0 := by
 induction m with
 | nil => rfl
 | cons x m ih =>
  simp only [lostN]
  rw [ih fun l hl => h l (List.mem_cons_of_mem _ hl), if_neg (by rw [h x List.mem_cons_self]; omega)]
theorem enc_ok {d : List (List Nat)} {q M : Nat} (h : OkD d q) (hM : M ≤ 4) : Ok d.length M (enc d M) := by
 have e := szL_rows (enc_rows h M) (by rw [enc_len]; have := h.d1; omega) h.n1
 exact ⟨h.d1, h.d8, hM, enc_len d M, by rw [e]; exact h.n1, by rw [e]; exact h.n64, fun l hl => .inr (by rw [e]; exact enc_rows h M l hl)⟩
theorem enc_take (d : List (List Nat)) (M : Nat) : (enc d M).take d.length = d := by simp [enc]
theorem enc_sound {d : List (List Nat)} {q M : Nat} (h : OkD d q) (hM : M ≤ 4) : sndB d.length M (enc d M) = true := by
 rw [sndB_eq (enc_ok h hM)]
 unfold rsB
 rw [lostN_rows (enc_rows h M) h.n1, enc_take, decide_eq_true rfl, decide_eq_true rfl]; rfl
theorem enc_chk {d : List (List Nat)} {q M : Nat} (h : OkD d q) (hM : M ≤ 4) : chkE d.length M (enc d M) = 0 := ok_chkE (enc_ok h hM)
theorem enc_sd {d : List (List Nat)} {q M : Nat} (h : OkD d q) (hM : M ≤ 4) : sdB d.length M (enc d M) = true := by
 unfold sdB
 rw [enc_chk h hM, decide_eq_true rfl, Int.toNat_natCast, Int.toNat_natCast, enc_sound h hM]; rfl
def cntP (p : Nat → Bool) (n : Nat) : Nat := ((List.range n).filter p).length
theorem cntP_succ (p : Nat → Bool) (n : Nat) : cntP p (n + 1) = cntP p n + if p n then 1 else 0 := by
 unfold cntP
 rw [List.range_succ, List.filter_append, List.length_append, List.filter_cons, List.filter_nil]
 split <;> rfl
theorem cntP_congr {p p' : Nat → Bool} : ∀ {n : Nat}, (∀ i, i < n → p i = p' i) → cntP p n = cntP p' n
 | 0, _ => rfl
 | n + 1, h => by rw [cntP_succ, cntP_succ, cntP_congr (fun i hi => h i (by omega)), h n (by omega)]
theorem cntP_more {p : Nat → Bool} {k : Nat} (hk : p k = false) : ∀ {n : Nat}, k < n → cntP (fun i => decide (i = k) || p i) n = cntP p n + 1
 | 0, h => by omega
 | n + 1, h => by
  rw [cntP_succ, cntP_succ]
  by_cases e : n = k
  ·subst e
   rw [decide_eq_true rfl, Bool.true_or, if_pos rfl, hk, if_neg (by decide), cntP_congr (p' := p) (fun i hi => by rw [decide_eq_false (by omega), Bool.false_or])]
  ·rw [cntP_more hk (by omega), decide_eq_false e, Bool.false_or]; omega
theorem cntP_none {n : Nat} : cntP (fun _ => false) n = 0 := by unfold cntP; simp
theorem goneB_cnt {n : Nat} : ∀ {ds : List Int}, inB n ds = true → ds.Nodup → cntP (goneB ds) n = ds.length
 | [], _, _ => (cntP_congr (p := goneB []) (p' := fun _ => false) (fun i _ => rfl)).trans cntP_none
 | x :: ds, h, hn => by
  have h' : (0 ≤ x ∧ x < (n : Int)) ∧ inB n ds = true := by
   unfold inB at h ⊢
   rw [List.all_cons, Bool.and_eq_true, Bool.and_eq_true, decide_eq_true_eq, decide_eq_true_eq] at h
   exact h
  obtain ⟨k, rfl⟩ := Int.eq_ofNat_of_zero_le h'.1.1
  rw [List.nodup_cons] at hn
  have e : goneB ds k = false := by
   cases hg : goneB ds k with
   | false => rfl
   | true =>
    unfold goneB at hg
    rw [List.any_eq_true] at hg
    obtain ⟨y, hy, e⟩ := hg
    rw [beq_iff_eq] at e
    subst e
    exact absurd hy hn.1
  rw [cntP_congr (p' := fun i => decide (i = k) || goneB ds i) (fun i _ => ?_), cntP_more e (by omega), goneB_cnt h'.2 hn.2]; rfl
  unfold goneB
  rw [List.any_cons]
  congr 1
  rw [Bool.eq_iff_iff]; simp; omega
theorem keepL_getD {m : List (List Nat)} {p : Nat → Bool} {i : Nat} : (keepL m p).getD i [] = if p i then [] else m.getD i [] := by
 by_cases h : i < m.length
 ·exact getD_of (by simp only [keepL, List.getElem?_map, List.getElem?_range h, Option.map_some])
 ·have e1 : m.getD i [] = [] := by rw [List.getD_eq_getElem?_getD, List.getElem?_eq_none (by omega)]; rfl
  have e2 : (keepL m p).getD i [] = [] := by rw [List.getD_eq_getElem?_getD, List.getElem?_eq_none (by rw [keepL_len]; omega)]; rfl
  rw [e1, e2]; split <;> rfl
theorem keepL_lost {m : List (List Nat)} {p : Nat → Bool} {q : Nat} (h : ∀ l ∈ m, l.length = q) (hq : 1 ≤ q) : lostN (keepL m p) = cntP p m.length := by
 have e := lostL_count (m := keepL m p) m.length (by rw [keepL_len]; exact Nat.le_refl _)
 rw [List.take_of_length_le (by rw [keepL_len]; exact Nat.le_refl _)] at e
 rw [← e]
 show cntP _ _ = _
 refine cntP_congr fun i hi => ?_
 rw [keepL_getD]
 cases hp : p i with
 | true => rw [if_pos rfl]; rfl
 | false =>
  rw [if_neg (by decide)]
  exact decide_eq_false (by rw [len_getD h hi]; omega)
theorem keepL_fit (m : List (List Nat)) (p : Nat → Bool) : Fit (keepL m p) m := ⟨keepL_len m p, fun i => by
 rw [keepL_getD]; split
 ·exact .inl rfl
 ·exact .inr rfl⟩
theorem Fit.fitB_ {m r : List (List Nat)} (h : Fit m r) : fitB m r = true := fitB_true h.len fun j l l' h1 h2 => by
 have := h.each j
 rw [getD_of h1, getD_of h2] at this
 exact this
theorem rst_back {d m : List (List Nat)} {q M : Nat} (h : OkD d q) (hb : ∀ l ∈ d, Byt l) (hM : M ≤ 4) (hf : Fit m (enc d M)) (hl : lostN m ≤ M) : rstE d.length M m = 0 := by
 unfold rstE
 rw [if_neg (by omega), data_back h hb hM hf hl, hf.fitB_, if_pos rfl]
theorem res_back {d m : List (List Nat)} {q M : Nat} (h : OkD d q) (hb : ∀ l ∈ d, Byt l) (hM : M ≤ 4) (hf : Fit m (enc d M)) (hl : lostN m ≤ M) :
  resE d.length M m = 0 ∧ resS d.length M m = ((d.length : Int), (M : Int), enc d M) := by
 have hok := (hf.okq h hM).ok hl
 have e : resE d.length M m = 0 := by
  unfold resE
  rw [ok_chkE hok, if_pos rfl, Int.toNat_natCast, Int.toNat_natCast, rst_back h hb hM hf hl]
 refine ⟨e, ?_⟩
 unfold resS
 rw [e, if_pos rfl, Int.toNat_natCast, Int.toNat_natCast, data_back h hb hM hf hl]
theorem res_lost {d m : List (List Nat)} {q M : Nat} (h : OkD d q) (hM : M ≤ 4) (hf : Fit m (enc d M)) (hl : M < lostN m) (hs : szL m ≠ 0) :
  resE d.length M m = 32 ∧ resS d.length M m = (0, 0, []) := by
 have hq := hf.okq h hM
 have hz : szL m = q := by
  obtain ⟨l, hl, e⟩ := szL_mem hs
  rcases hq.each l hl with h1 | h1 <;> omega
 have hok : Ok d.length M m := ⟨hq.d1, hq.d8, hq.m4, hq.len, by rw [hz]; exact hq.q1, by rw [hz]; exact hq.q64, fun l hl => by rw [hz]; exact hq.each l hl⟩
 have e : resE d.length M m = 32 := by
  unfold resE
  rw [ok_chkE hok, if_pos rfl, Int.toNat_natCast, Int.toNat_natCast]
  unfold rstE
  rw [if_pos hl]
 exact ⟨e, resS_err e (by decide)⟩
theorem lose_cases {d : List (List Nat)} {q M : Nat} (h : OkD d q) (hM : M ≤ 4) (ds : List Int) :
  (loseE d.length M (enc d M) ds = 2 ∨ loseE d.length M (enc d M) ds = 14 ∨ loseE d.length M (enc d M) ds = 32) ∨
  (loseE d.length M (enc d M) ds = 0 ∧ loseS d.length M (enc d M) ds = ((d.length : Int), (M : Int), keepL (enc d M) (goneB ds)) ∧ szL (keepL (enc d M) (goneB ds)) ≠ 0 ∧ lostN (keepL (enc d M) (goneB ds)) = ds.length) := by
 have hL : loseE d.length M (enc d M) ds = if inB (enc d M).length ds = false then 2 else if ds.Nodup then (if szL (keepL (enc d M) (goneB ds)) = 0 then 32 else 0) else 14 := by
  unfold loseE
  rw [if_neg (by rw [enc_chk h hM]; exact fun e => e rfl)]
 by_cases h1 : inB (enc d M).length ds = false
 ·rw [hL, if_pos h1]; exact .inl (.inl rfl)
 by_cases h2 : ds.Nodup
 ·by_cases h3 : szL (keepL (enc d M) (goneB ds)) = 0
  ·rw [hL, if_neg h1, if_pos h2, if_pos h3]; exact .inl (.inr (.inr rfl))
  ·have e : loseE d.length M (enc d M) ds = 0 := by rw [hL, if_neg h1, if_pos h2, if_neg h3]
   refine .inr ⟨e, ?_, h3, ?_⟩
   ·unfold loseS; rw [e, if_pos rfl]
   ·rw [keepL_lost (enc_rows h M) h.n1, goneB_cnt (by simpa using h1) h2]
 ·rw [hL, if_neg h1, if_neg h2]; exact .inl (.inr (.inl rfl))
theorem encS_ok {d : List (List Nat)} {M : Int} (h : encE d M = 0) : encS d M = ((d.length : Int), M, enc d M.toNat) := by unfold encS; rw [h, if_pos rfl]
end Go.Proofs.Ytapehckcmmompaa
