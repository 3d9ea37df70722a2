/- Contracts of layer 45: Restore, Sound and Find. -/
import Derived.Test.YtmpmeeacdllomaaPbb
namespace Go.Proofs.Ytmpmeeacdllomaa
open Go.ChangeShapes Go.WideShapes Go.ChangeAt Go.RowKit Gf
set_option linter.unusedVariables false
attribute [local go_sem ↓] Go.wp_at_zero Go.wp_at_succ

def resE (D M : Int) (m : List (List Nat)) : Int := if chkE D M m = 0 then rstE D.toNat M.toNat m else chkE D M m
def resS (D M : Int) (m : List (List Nat)) : St := if resE D M m = 0 then (D, M, enc (dataL D.toNat M.toNat m) M.toNat) else (0, 0, [])
theorem resS_err {D M : Int} {m : List (List Nat)} {er : Int} (h : resE D M m = er) (h0 : er ≠ 0) : resS D M m = (0, 0, []) := by unfold resS; rw [h, if_neg h0]
set_option maxHeartbeats 1000000 in
theorem restore_calls (D M : Int) (A : Option Addr) (c B : Nat) (m : List (List Nat)) (w : World) (hn : m.length ≤ c) (hc : c ≤ 9223372036854775807) (hs : RMA B w A m) :
    Calls Try.prog 16 #[Sv D M (.slice A m.length c)] w (SEPost w (resS D M m) (resE D M m)) := by
  have HS := Lib.hid hs
  clear hs
  have CC := Lib.hid (fun W (h : RMA B W A m) => check_calls D M A c B m W hn hc h)
  by_cases ck : chkE D M m = 0
  · obtain ⟨OKS, hD, hM⟩ := chkE_ok ck
    have FE : Hid (resE D M m = rstE D.toNat M.toNat m ∧ resS D M m = rstS D.toNat M.toNat m) := Lib.hid (by
      have e1 : resE D M m = rstE D.toNat M.toNat m := by unfold resE; rw [if_pos ck]
      refine ⟨e1, ?_⟩
      unfold resS rstS
      rw [e1, ← hD, ← hM])
    rw [ck] at CC
    generalize D.toNat = D' at *
    generalize M.toNat = M' at *
    subst hD hM
    have RC := Lib.hid (fun W (h : RMA B W A m) => restored_calls A c B D' M' (szL m) m W hn hc h OKS.q)
    rw [FE.out.1, FE.out.2]
    generalize rstE D' M' m = er at *
    generalize rstS D' M' m = rs at *
    obtain ⟨r1, r2, r3⟩ := rs
    clear ck OKS FE
    go_enter Try.func16, Try.ntmps16
    go_wp2_with fail
    refine (CC.out _ (HS.out.next (Bal (Bal (Below.refl _ _) _) _))).mono ?_
    rintro e w1 ⟨rfl, hb1⟩
    have N1 : Hid (Below w.heap.size w w1) := Lib.hid (Bgo (Bal (Bal (Below.refl _ _) _) _) hb1)
    have SB1 : Hid (w1.heap[w.heap.size]? = some (.cells #[.int .i64 D', .int .i64 M', .slice A m.length c] 31)) := Lib.hid (blk_next hb1 (blk_alloc (blk_new w _) _))
    have X1 : Hid (w1.heap[w.heap.size + 1]? = some (.cells #[.int .i64 0, .int .i64 0, .slice none 0 0] 31)) := Lib.hid (blk_next hb1 (blk_at _ (by simp)))
    have s0 : w1.cell? ⟨w.heap.size, 0, none⟩ = some (.int .i64 D') := blk_cell SB1.out 0 _ rfl
    have s1 : w1.cell? ⟨w.heap.size, 1, none⟩ = some (.int .i64 M') := blk_cell SB1.out 1 _ rfl
    have s2 : w1.cell? ⟨w.heap.size, 2, none⟩ = some (.slice A m.length c) := blk_cell SB1.out 2 _ rfl
    clear hb1
    go_wp2_with fail
    refine (RC.out _ (HS.out.next N1.out)).mono ?_
    rintro e w2 ⟨v, rfl, ⟨us, ho⟩, hb2⟩
    obtain ⟨Av, cv, rfl, hv1, hv2, _⟩ := own_form ho.top
    have X2 := Lib.hid (blk_next hb2 X1.out)
    have N2 := Lib.hid (Bgo N1.out hb2)
    have O2 := Lib.hid (ho.mono (B' := w.heap.size) N1.out.size)
    clear hb2 ho s0 s1 s2
    have x0 : w2.cell? ⟨w.heap.size + 1, 0, none⟩ = some (.int .i64 0) := blk_cell X2.out 0 _ rfl
    have x1 : w2.cell? ⟨w.heap.size + 1, 1, none⟩ = some (.int .i64 0) := blk_cell X2.out 1 _ rfl
    have x2 : w2.cell? ⟨w.heap.size + 1, 2, none⟩ = some (.slice none 0 0) := blk_cell X2.out 2 _ rfl
    have f0 : w2.frozen? ⟨w.heap.size + 1, 0, none⟩ = false := blk_frozen X2.out 0
    have f1 : w2.frozen? ⟨w.heap.size + 1, 1, none⟩ = false := blk_frozen X2.out 1
    have f2 : w2.frozen? ⟨w.heap.size + 1, 2, none⟩ = false := blk_frozen X2.out 2
    go_wp2_with fail
    have Z := blk_set3 X2.out (.int .i64 r1) (.int .i64 r2) (.slice Av r3.length cv)
    have e0 := blk_cell Z 0 _ rfl
    have e1 := blk_cell Z 1 _ rfl
    have e2 := blk_cell Z 2 _ rfl
    refine bodyPost_ret (v := .tuple #[Sv r1 r2 (.slice Av r3.length cv), .int .i64 er]) (by simp [results, Try.results16, go_sem, e0, e1, e2]) rfl ⟨_, rfl, ⟨us, ?_⟩, ?_⟩
    · exact O2.out.set3_ X2.out _ _ _
    · exact Bset3 N2.out (by omega) _ _ _
  · have FE : Hid (resE D M m = chkE D M m) := Lib.hid (by unfold resE; rw [if_neg ck])
    have q : (chkE D M m != 0) = true := by rw [bne_iff_ne]; exact ck
    rw [resS_err FE.out ck, FE.out]
    generalize chkE D M m = er at *
    clear ck FE
    go_enter Try.func16, Try.ntmps16
    go_wp2_with fail
    refine (CC.out _ (HS.out.next (Bal (Bal (Below.refl _ _) _) _))).mono ?_
    rintro e w1 ⟨rfl, hb1⟩
    have N1 : Hid (Below w.heap.size w w1) := Lib.hid (Bgo (Bal (Bal (Below.refl _ _) _) _) hb1)
    have X1 : Hid (w1.heap[w.heap.size + 1]? = some (.cells #[.int .i64 0, .int .i64 0, .slice none 0 0] 31)) := Lib.hid (blk_next hb1 (blk_at _ (by simp)))
    clear hb1
    have x0 : w1.cell? ⟨w.heap.size + 1, 0, none⟩ = some (.int .i64 0) := blk_cell X1.out 0 _ rfl
    have x1 : w1.cell? ⟨w.heap.size + 1, 1, none⟩ = some (.int .i64 0) := blk_cell X1.out 1 _ rfl
    have x2 : w1.cell? ⟨w.heap.size + 1, 2, none⟩ = some (.slice none 0 0) := blk_cell X1.out 2 _ rfl
    have f0 : w1.frozen? ⟨w.heap.size + 1, 0, none⟩ = false := blk_frozen X1.out 0
    have f1 : w1.frozen? ⟨w.heap.size + 1, 1, none⟩ = false := blk_frozen X1.out 1
    have f2 : w1.frozen? ⟨w.heap.size + 1, 2, none⟩ = false := blk_frozen X1.out 2
    go_wp2_with fail
    have Z := blk_set3 X1.out (.int .i64 0) (.int .i64 0) (.slice none 0 0)
    have e0 := blk_cell Z 0 _ rfl
    have e1 := blk_cell Z 1 _ rfl
    have e2 := blk_cell Z 2 _ rfl
    refine bodyPost_ret (v := .tuple #[Sv 0 0 (.slice none 0 0), .int .i64 er]) (by simp [results, Try.results16, go_sem, e0, e1, e2]) rfl (SEPost.none_ ?_)
    exact Bset3 N1.out (by omega) _ _ _
/- is a valid stripe sound? -/
def sndB (D M : Nat) (m : List (List Nat)) : Bool := decide (lostN m = 0) && decide (rstE D M m = 0)
set_option maxHeartbeats 1000000 in
theorem sound_calls (A : Option Addr) (c B D M q : Nat) (m : List (List Nat)) (w : World) (hn : m.length ≤ c) (hc : c ≤ 9223372036854775807) (hs : RMA B w A m) (hok : Okq D M q m) :
    Calls Try.prog 44 #[Sv D M (.slice A m.length c)] w fun e w' => e = .returned (.bool (sndB D M m)) ∧ Below w.heap.size w w' := by
  have HS := Lib.hid hs
  clear hs
  have LC := Lib.hid (fun W (h : RMA B W A m) => lost_calls (D : Int) (M : Int) A c B m W hn hc h)
  have RC := Lib.hid (fun W (h : RMA B W A m) => restored_calls A c B D M q m W hn hc h hok)
  have F : Hid (sndB D M m = (decide (lostN m = 0) && decide (rstE D M m = 0))) := Lib.hid rfl
  generalize sndB D M m = sb at *
  generalize lostN m = z at *
  generalize rstE D M m = er at *
  generalize rstS D M m = rs at *
  obtain ⟨r1, r2, r3⟩ := rs
  clear hok
  by_cases hz : 0 < z
  · have F2 : Hid (sb = false) := Lib.hid (by rw [F.out, decide_eq_false (by omega)]; rfl)
    go_enter Try.func44, Try.ntmps44
    go_wp2_with fail
    refine (LC.out _ (HS.out.next (Bal (Below.refl _ _) _))).mono ?_
    rintro e w1 ⟨rfl, hb1⟩
    go_wp2_with fail
    go_ret
    exact ⟨ret_bool F2.out.symm, Bgo (Bal (Below.refl _ _) _) hb1⟩
  · have F2 : Hid (sb = (er == 0)) := Lib.hid (by rw [F.out, decide_eq_true (by omega), Bool.true_and, Bool.eq_iff_iff]; simp)
    go_enter Try.func44, Try.ntmps44
    go_wp2_with fail
    refine (LC.out _ (HS.out.next (Bal (Below.refl _ _) _))).mono ?_
    rintro e w1 ⟨rfl, hb1⟩
    have N1 : Hid (Below w.heap.size w w1) := Lib.hid (Bgo (Bal (Below.refl _ _) _) hb1)
    have SB1 : Hid (w1.heap[w.heap.size]? = some (.cells #[.int .i64 D, .int .i64 M, .slice A m.length c] 31)) := Lib.hid (blk_next hb1 (blk_new w _))
    have s0 : w1.cell? ⟨w.heap.size, 0, none⟩ = some (.int .i64 D) := blk_cell SB1.out 0 _ rfl
    have s1 : w1.cell? ⟨w.heap.size, 1, none⟩ = some (.int .i64 M) := blk_cell SB1.out 1 _ rfl
    have s2 : w1.cell? ⟨w.heap.size, 2, none⟩ = some (.slice A m.length c) := blk_cell SB1.out 2 _ rfl
    clear hb1
    go_wp2_with fail
    refine (RC.out _ (HS.out.next N1.out)).mono ?_
    rintro e w2 ⟨v, rfl, ⟨us, ho⟩, hb2⟩
    obtain ⟨Av, cv, rfl, hv1, hv2, _⟩ := own_form ho.top
    have N2 := Lib.hid (Bgo N1.out hb2)
    clear hb2 ho s0 s1 s2
    go_wp2_with fail
    go_ret
    exact ⟨ret_bool F2.out.symm, Bal N2.out _⟩
def sdB (D M : Int) (m : List (List Nat)) : Bool := decide (chkE D M m = 0) && sndB D.toNat M.toNat m
set_option maxHeartbeats 1000000 in
theorem soundX_calls (D M : Int) (A : Option Addr) (c B : Nat) (m : List (List Nat)) (w : World) (hn : m.length ≤ c) (hc : c ≤ 9223372036854775807) (hs : RMA B w A m) :
    Calls Try.prog 28 #[Sv D M (.slice A m.length c)] w fun e w' => e = .returned (.tuple #[.bool (sdB D M m), .int .i64 (chkE D M m)]) ∧ Below w.heap.size w w' := by
  have HS := Lib.hid hs
  clear hs
  have CC := Lib.hid (fun W (h : RMA B W A m) => check_calls D M A c B m W hn hc h)
  by_cases ck : chkE D M m = 0
  · obtain ⟨OKS, hD, hM⟩ := chkE_ok ck
    have F : Hid (sdB D M m = sndB D.toNat M.toNat m) := Lib.hid (by unfold sdB; rw [decide_eq_true ck, Bool.true_and])
    have SC := Lib.hid (fun W (h : RMA B W A m) => sound_calls A c B D.toNat M.toNat (szL m) m W hn hc h OKS.q)
    rw [← hD, ← hM] at SC
    rw [F.out, ck]
    rw [ck] at CC
    generalize sndB D.toNat M.toNat m = sb at *
    clear ck OKS hD hM F
    go_enter Try.func28, Try.ntmps28
    go_wp2_with fail
    refine (CC.out _ (HS.out.next (Bal (Below.refl _ _) _))).mono ?_
    rintro e w1 ⟨rfl, hb1⟩
    have N1 : Hid (Below w.heap.size w w1) := Lib.hid (Bgo (Bal (Below.refl _ _) _) hb1)
    have SB1 : Hid (w1.heap[w.heap.size]? = some (.cells #[.int .i64 D, .int .i64 M, .slice A m.length c] 31)) := Lib.hid (blk_next hb1 (blk_new w _))
    have s0 : w1.cell? ⟨w.heap.size, 0, none⟩ = some (.int .i64 D) := blk_cell SB1.out 0 _ rfl
    have s1 : w1.cell? ⟨w.heap.size, 1, none⟩ = some (.int .i64 M) := blk_cell SB1.out 1 _ rfl
    have s2 : w1.cell? ⟨w.heap.size, 2, none⟩ = some (.slice A m.length c) := blk_cell SB1.out 2 _ rfl
    clear hb1
    go_wp2_with fail
    refine (SC.out _ (HS.out.next N1.out)).mono ?_
    rintro e w2 ⟨rfl, hb2⟩
    go_wp2_with fail
    go_ret2
    exact ⟨rfl, Bgo N1.out hb2⟩
  · have F : Hid (sdB D M m = false) := Lib.hid (by unfold sdB; rw [decide_eq_false ck]; rfl)
    have q : (chkE D M m != 0) = true := by rw [bne_iff_ne]; exact ck
    rw [F.out]
    generalize chkE D M m = er at *
    clear ck F
    go_enter Try.func28, Try.ntmps28
    go_wp2_with fail
    refine (CC.out _ (HS.out.next (Bal (Below.refl _ _) _))).mono ?_
    rintro e w1 ⟨rfl, hb1⟩
    go_wp2_with fail
    go_ret2
    exact ⟨rfl, Bgo (Bal (Below.refl _ _) _) hb1⟩
/- the only disk at which another block makes the stripe sound -/
def oneB (k i : Nat) : Bool := decide (i = k)
def fndTo (D M : Nat) (m : List (List Nat)) : Nat → Nat × Nat
  | 0 => (0, 0)
  | k + 1 => if rstE D M (keepL m (oneB k)) = 0 then (k, (fndTo D M m k).2 + 1) else fndTo D M m k
def fndV (D M : Int) (m : List (List Nat)) : Int × Int :=
  if chkE D M m ≠ 0 then (0, chkE D M m) else if 0 < lostN m then (0, 2) else if sndB D.toNat M.toNat m then (-1, 0)
  else if (fndTo D.toNat M.toNat m m.length).2 ≠ 1 then (0, 6) else ((fndTo D.toNat M.toNat m m.length).1, 0)
theorem find1_calls (x k gb : Nat) (w : World) (h : w.cell? ⟨gb, 0, none⟩ = some (.int .i64 (k : Int))) :
    Calls Try.prog 46 #[.int .i64 (x : Int), .pointer (some ⟨gb, 0, none⟩)] w fun e w' => e = .returned (.bool (oneB k x)) ∧ w = w' := by
  have F : Hid (oneB k x = ((x : Int) == (k : Int))) := Lib.hid (by unfold oneB; rw [Bool.eq_iff_iff]; simp; omega)
  generalize oneB k x = b at *
  go_enter Try.func46, Try.ntmps46
  go_wp2_with fail
  go_ret
  exact ⟨ret_bool F.out.symm, rfl⟩
theorem call_find1 (args : Array Value) (W : World) : Sem.run Try.prog (callFunc 46 args) W = .ok (.enter 46 args) W := by kernel_rfl
theorem Ok.keep {D M : Nat} {m : List (List Nat)} (h : Ok D M m) (p : Nat → Bool) : Okq D M (szL m) (keepL m p) :=
  ⟨h.d1, h.d8, h.m4, by rw [keepL_len]; exact h.len, h.s1, h.s64, fun l hl => by
    simp only [keepL, List.mem_map, List.mem_range] at hl
    obtain ⟨i, hi, rfl⟩ := hl
    split
    · exact .inl rfl
    · obtain ⟨z, hz⟩ := get_some hi
      rw [getD_of hz]; exact h.each z (List.mem_of_getElem? hz)⟩
end Go.Proofs.Ytmpmeeacdllomaa
