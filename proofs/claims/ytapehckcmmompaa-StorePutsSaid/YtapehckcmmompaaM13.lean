/- Several texts in one. -/
import Derived.BigQuiet
import Derived.Test.YtapehckcmmompaaM02
import Derived.Test.YtapehckcmmompaaM12
namespace Go.Proofs.Ytapehckcmmompaa
open Go.ChangeShapes Go.WideShapes Go.ChangeAt Go.RowKit
set_option linter.unusedVariables false
set_option maxRecDepth 100000
attribute [local go_sem ↓] Go.wp_at_zero Go.wp_at_succ
theorem findL_nn {os : List Ob} {l : List UInt8} : findL os l = -1 ∨ 0 ≤ findL os l := by
 unfold findL
 cases os.findIdx? (fun o => nmE o l) with
 | none => exact Or.inl rfl
 | some i => exact Or.inr (by simp)
theorem dk_failed {st : Int} {d : Dk} (h : d.failed = true) (hb : dkB st d = true) : d.blocks = [] := by
 unfold dkB at hb
 rw [if_pos h] at hb
 simpa using hb
set_option maxHeartbeats 16000000 in
theorem oCheck_calls (d p : Int) (D A : Option Addr) (cd ca B : Nat) (ds : List Dk) (os : List Ob) (w : World) (hnd : ds.length ≤ cd) (hcd : cd ≤ 9223372036854775807) (hna : os.length ≤ ca) (hca : ca ≤ 9223372036854775807) (hd : RD B w D ds) (hs : RO B w A os) (hl : ∀ o ∈ os, Lh o.name) :
  Calls Try.prog 21 #[Tv d p (.slice D ds.length cd) (.slice A os.length ca)] w fun e w' => e = .returned (.int .i64 (chS d p ds os)) ∧ Below w.heap.size w w' := by
 have HD := Lib.hid hd
 have HS := Lib.hid hs
 have HL := Lib.hid hl
 have NN := Lib.hid (Below.refl w.heap.size w)
 clear hd hs hl
 have MANY := Lib.hid (fun h => chS_many (d := d) (p := p) (ds := ds) (os := os) h)
 have SIZE := Lib.hid (fun h h' hb => chS_size (d := d) (p := p) (ds := ds) (os := os) h h' hb)
 have IN := Lib.hid (fun h h' h1 h2 h3 h4 h5 => chS_in (d := d) (p := p) (ds := ds) (os := os) h h' h1 h2 h3 h4 h5)
 have ZC := Lib.hid (fun W => isSize_calls d p W)
 generalize chS d p ds os = res at *
 by_cases q0 : 12 < ds.length
 ·have e_q0 : decide ((12 : Int) < (ds.length : Int)) = true := decide_eq_true (by omega)
  have R : Hid (res = 4) := Lib.hid (MANY.out (Or.inl q0))
  clear MANY SIZE IN HL
  go_enter Try.func21, Try.ntmps21
  have HB : Hid (Below w.heap.size w (w.alloc (.cells #[.int .i64 d, .int .i64 p, .slice D ds.length cd, .slice A os.length ca] 25))) := Lib.hid (Bal (Below.refl _ _) _)
  have SB := Lib.hid (blk_new w (.cells #[.int .i64 d, .int .i64 p, .slice D ds.length cd, .slice A os.length ca] 25))
  have LT_SB : Hid (w.heap.size ≤ w.heap.size) := Lib.hid NN.out.size
  replace NN := Lib.hid (Bgo NN.out HB.out)
  replace HS := Lib.hid (HS.out.next HB.out)
  replace HD := Lib.hid (HD.out.next HB.out)
  clear HB
  go_wp2_with fail
  generalize w.alloc (.cells #[.int .i64 d, .int .i64 p, .slice D ds.length cd, .slice A os.length ca] 25) = W1 at *
  go_ret
  exact ⟨ret_int R.out.symm, NN.out⟩
 have e_q0 : decide ((12 : Int) < (ds.length : Int)) = false := decide_eq_false (by omega)
 by_cases q1 : 16 < os.length
 ·have e_q1 : decide ((16 : Int) < (os.length : Int)) = true := decide_eq_true (by omega)
  have R : Hid (res = 4) := Lib.hid (MANY.out (Or.inr q1))
  clear MANY SIZE IN HL
  go_enter Try.func21, Try.ntmps21
  have HB : Hid (Below w.heap.size w (w.alloc (.cells #[.int .i64 d, .int .i64 p, .slice D ds.length cd, .slice A os.length ca] 25))) := Lib.hid (Bal (Below.refl _ _) _)
  have SB := Lib.hid (blk_new w (.cells #[.int .i64 d, .int .i64 p, .slice D ds.length cd, .slice A os.length ca] 25))
  have LT_SB : Hid (w.heap.size ≤ w.heap.size) := Lib.hid NN.out.size
  replace NN := Lib.hid (Bgo NN.out HB.out)
  replace HS := Lib.hid (HS.out.next HB.out)
  replace HD := Lib.hid (HD.out.next HB.out)
  clear HB
  go_wp2_with fail
  generalize w.alloc (.cells #[.int .i64 d, .int .i64 p, .slice D ds.length cd, .slice A os.length ca] 25) = W2 at *
  go_ret
  exact ⟨ret_int R.out.symm, NN.out⟩
 have e_q1 : decide ((16 : Int) < (os.length : Int)) = false := decide_eq_false (by omega)
 by_cases q2 : szB d p = true
 rotate_left
 ·have q2' : szB d p = false := by simpa using q2
  have R : Hid (res = 8) := Lib.hid (SIZE.out (by omega) (by omega) (fun h => q2 (szB_iff.2 ⟨⟨h.1, h.2.1⟩, h.2.2.1, h.2.2.2.1⟩)))
  clear MANY SIZE IN HL q2
  rw [q2'] at ZC
  go_enter Try.func21, Try.ntmps21
  have HB : Hid (Below w.heap.size w (w.alloc (.cells #[.int .i64 d, .int .i64 p, .slice D ds.length cd, .slice A os.length ca] 25))) := Lib.hid (Bal (Below.refl _ _) _)
  have SB := Lib.hid (blk_new w (.cells #[.int .i64 d, .int .i64 p, .slice D ds.length cd, .slice A os.length ca] 25))
  have LT_SB : Hid (w.heap.size ≤ w.heap.size) := Lib.hid NN.out.size
  replace NN := Lib.hid (Bgo NN.out HB.out)
  replace HS := Lib.hid (HS.out.next HB.out)
  replace HD := Lib.hid (HD.out.next HB.out)
  clear HB
  go_wp2_with fail
  generalize w.alloc (.cells #[.int .i64 d, .int .i64 p, .slice D ds.length cd, .slice A os.length ca] 25) = W3 at *
  refine (ZC.out _).mono ?_
  rintro e wz ⟨rfl, hz⟩
  subst hz
  have c_SB_0 := blk_cell SB.out 0 _ rfl
  have c_SB_1 := blk_cell SB.out 1 _ rfl
  have c_SB_2 := blk_cell SB.out 2 _ rfl
  have c_SB_3 := blk_cell SB.out 3 _ rfl
  have l_SB := blk_lt SB.out
  go_wp2_with fail
  go_ret
  exact ⟨ret_int R.out.symm, NN.out⟩
 rw [q2] at ZC
 have q3 := szB_iff.1 q2
 clear q2
 obtain ⟨⟨d1, d8⟩, p0, p4⟩ := q3
 by_cases q6 : (ds.length : Int) ≠ d + p
 ·have e_q6 : ((ds.length : Int) != d + p) = true := by rw [bne_iff_ne]; exact q6
  have R : Hid (res = 8) := Lib.hid (SIZE.out (by omega) (by omega) (fun h => q6 h.2.2.2.2))
  clear MANY SIZE IN HL
  go_enter Try.func21, Try.ntmps21
  have HB : Hid (Below w.heap.size w (w.alloc (.cells #[.int .i64 d, .int .i64 p, .slice D ds.length cd, .slice A os.length ca] 25))) := Lib.hid (Bal (Below.refl _ _) _)
  have SB := Lib.hid (blk_new w (.cells #[.int .i64 d, .int .i64 p, .slice D ds.length cd, .slice A os.length ca] 25))
  have LT_SB : Hid (w.heap.size ≤ w.heap.size) := Lib.hid NN.out.size
  replace NN := Lib.hid (Bgo NN.out HB.out)
  replace HS := Lib.hid (HS.out.next HB.out)
  replace HD := Lib.hid (HD.out.next HB.out)
  clear HB
  go_wp2_with fail
  generalize w.alloc (.cells #[.int .i64 d, .int .i64 p, .slice D ds.length cd, .slice A os.length ca] 25) = W4 at *
  refine (ZC.out _).mono ?_
  rintro e wz ⟨rfl, hz⟩
  subst hz
  have c_SB_0 := blk_cell SB.out 0 _ rfl
  have c_SB_1 := blk_cell SB.out 1 _ rfl
  have c_SB_2 := blk_cell SB.out 2 _ rfl
  have c_SB_3 := blk_cell SB.out 3 _ rfl
  have l_SB := blk_lt SB.out
  go_wp2_with fail
  go_ret
  exact ⟨ret_int R.out.symm, NN.out⟩
 have e_q6 : ((ds.length : Int) != d + p) = false := by rw [bne_eq_false_iff_eq]; omega
 replace IN := Lib.hid (IN.out (by omega) (by omega) d1 d8 p0 p4 (by omega))
 clear MANY SIZE
 have DES := Lib.hid (desB_iff (d := d) (os := os))
 have BADO := Lib.hid (fun k o h hb => desB_bad (d := d) (os := os) (k := k) (o := o) h hb)
 generalize desB d os = de at *
 go_enter Try.func21, Try.ntmps21
 have HB : Hid (Below w.heap.size w (w.alloc (.cells #[.int .i64 d, .int .i64 p, .slice D ds.length cd, .slice A os.length ca] 25))) := Lib.hid (Bal (Below.refl _ _) _)
 have SB := Lib.hid (blk_new w (.cells #[.int .i64 d, .int .i64 p, .slice D ds.length cd, .slice A os.length ca] 25))
 have LT_SB : Hid (w.heap.size ≤ w.heap.size) := Lib.hid NN.out.size
 replace NN := Lib.hid (Bgo NN.out HB.out)
 replace HS := Lib.hid (HS.out.next HB.out)
 replace HD := Lib.hid (HD.out.next HB.out)
 clear HB
 go_wp2_with fail
 generalize w.alloc (.cells #[.int .i64 d, .int .i64 p, .slice D ds.length cd, .slice A os.length ca] 25) = W5 at *
 refine (ZC.out _).mono ?_
 rintro e wz ⟨rfl, hz⟩
 subst hz
 have c_SB_0 := blk_cell SB.out 0 _ rfl
 have c_SB_1 := blk_cell SB.out 1 _ rfl
 have c_SB_2 := blk_cell SB.out 2 _ rfl
 have c_SB_3 := blk_cell SB.out 3 _ rfl
 have l_SB := blk_lt SB.out
 go_wp2_with fail
 clear c_SB_0 c_SB_1 c_SB_2 c_SB_3 l_SB
 clear ZC
 go_loopw [3, 39] (fun n i wr => ∃ (k : Nat) (t : Int), k ≤ os.length ∧ i = .int .i64 k ∧ n = .int .i64 t ∧ 0 ≤ t ∧ t ≤ 38 * k ∧ Hid (t = strN (os.take k)) ∧ Hid (∀ (j : Nat) (o : Ob), j < k → os[j]? = some o → oneO d os j o = true) ∧ Hid (Below w.heap.size w wr) ∧ Hid (RO B wr A os) ∧ Hid (RD B wr D ds) ∧ Hid (wr.heap[w.heap.size]? = some (.cells #[.int .i64 d, .int .i64 p, .slice D ds.length cd, .slice A os.length ca] 25))) (fun _ i _ => os.length - (intOf i).toNat)
 case atStart => exact ⟨0, 0, by omega, rfl, rfl, by omega, by omega, Lib.hid (by simp [strN]), Lib.hid (fun j o h => by omega), NN, HS, HD, SB⟩
 case round =>
  clear NN HS HD SB
  obtain ⟨k, t, hk, rfl, rfl, t1, t2, TS, GD, NN, HS, HD, SB⟩ := hrel
  by_cases hlt : k < os.length
  rotate_left
  ·obtain rfl : k = os.length := by omega
   have DE : de = true := DES.out.2 (fun j o h => GD.out j o (get_lt h) h)
   rw [List.take_length] at TS
   clear GD DES BADO HL HS
   subst DE
   rw [← TS.out] at IN
   clear TS
   have c_SB_0 := blk_cell SB.out 0 _ rfl
   have c_SB_1 := blk_cell SB.out 1 _ rfl
   have c_SB_2 := blk_cell SB.out 2 _ rfl
   have c_SB_3 := blk_cell SB.out 3 _ rfl
   have l_SB := blk_lt SB.out
   go_wp2_with fail
   clear c_SB_0 c_SB_1 c_SB_2 c_SB_3 l_SB
   clear hk
   go_loopw [4, 68] (fun f i wr => ∃ (k u : Nat), k ≤ ds.length ∧ i = .int .i64 k ∧ f = .int .i64 u ∧ u ≤ k ∧ Hid (u = faN (ds.take k)) ∧ Hid (∀ (j : Nat) (o : Dk), j < k → ds[j]? = some o → dkB t o = true) ∧ Hid (Below w.heap.size w wr) ∧ Hid (RD B wr D ds) ∧ Hid (wr.heap[w.heap.size]? = some (.cells #[.int .i64 d, .int .i64 p, .slice D ds.length cd, .slice A os.length ca] 25))) (fun _ i _ => ds.length - (intOf i).toNat)
   case atStart => exact ⟨0, 0, by omega, rfl, rfl, by omega, Lib.hid (by simp [faN]), Lib.hid (fun j o h => by omega), NN, HD, SB⟩
   case round =>
    clear NN HD SB
    skip
    obtain ⟨k, u, hk, rfl, rfl, u1, US, GD, NN, HD, SB⟩ := hrel
    by_cases hlt : k < ds.length
    rotate_left
    ·obtain rfl : k = ds.length := by omega
     rw [List.take_length] at US
     have ALL : Hid (∀ k ∈ ds, dkB t k = true) := Lib.hid (fun o ho => by obtain ⟨j, hj⟩ := List.mem_iff_getElem?.1 ho; exact GD.out j o (get_lt hj) hj)
     rw [← US.out] at IN
     clear GD US
     by_cases q7 : 0 < t
     rotate_left
     ·have e7 : decide ((0 : Int) < t) = false := decide_eq_false (by omega)
      have R : Hid (res = 0) := Lib.hid (by rw [IN.out]; exact if_pos ⟨by simp, fun h => absurd h q7, ALL.out⟩)
      clear IN ALL
      have c_SB_0 := blk_cell SB.out 0 _ rfl
      have c_SB_1 := blk_cell SB.out 1 _ rfl
      have c_SB_2 := blk_cell SB.out 2 _ rfl
      have c_SB_3 := blk_cell SB.out 3 _ rfl
      have l_SB := blk_lt SB.out
      go_wp2_with fail
      go_ret
      exact ⟨ret_int R.out.symm, NN.out⟩
     have e7 : decide ((0 : Int) < t) = true := decide_eq_true q7
     by_cases q8 : u = ds.length
     rotate_left
     ·have e8 : ((u : Int) == (ds.length : Int)) = false := by rw [beq_eq_false_iff_ne]; omega
      have R : Hid (res = 0) := Lib.hid (by rw [IN.out]; exact if_pos ⟨by simp, fun _ => q8, ALL.out⟩)
      clear IN ALL
      have c_SB_0 := blk_cell SB.out 0 _ rfl
      have c_SB_1 := blk_cell SB.out 1 _ rfl
      have c_SB_2 := blk_cell SB.out 2 _ rfl
      have c_SB_3 := blk_cell SB.out 3 _ rfl
      have l_SB := blk_lt SB.out
      go_wp2_with fail
      go_ret
      exact ⟨ret_int R.out.symm, NN.out⟩
     have e8 : ((u : Int) == (ds.length : Int)) = true := by rw [beq_iff_eq, q8]
     have R : Hid (res = 8) := Lib.hid (by rw [IN.out]; exact if_neg (fun h => h.2.1 q7 q8))
     clear IN ALL
     have c_SB_0 := blk_cell SB.out 0 _ rfl
     have c_SB_1 := blk_cell SB.out 1 _ rfl
     have c_SB_2 := blk_cell SB.out 2 _ rfl
     have c_SB_3 := blk_cell SB.out 3 _ rfl
     have l_SB := blk_lt SB.out
     go_wp2_with fail
     go_ret
     exact ⟨ret_int R.out.symm, NN.out⟩
    obtain ⟨o, ho⟩ := get_some hlt
    obtain ⟨b, off, Ai, ci, hA, hb9, c0, c1, h2, h3, HM⟩ := HD.out.at_ ho
    have HO := Lib.hid ho
    have F2 := Lib.hid (faN_take ho)
    have BADK : Hid (dkB t o = false → res = 8) := Lib.hid (fun hb => by rw [IN.out]; exact if_neg (fun h => by have := h.2.2 o (List.mem_of_getElem? HO.out); rw [hb] at this; cases this))
    obtain ⟨f, m⟩ := o
    simp only at c0 c1 h2 F2
    replace HM : Hid (RMA B wr Ai m) := Lib.hid HM
    have kk : k + 1 ≤ ds.length := hlt
    clear ho
    have NEXT : Hid (dkB t ⟨f, m⟩ = true → ∀ (j : Nat) (o : Dk), j < k + 1 → ds[j]? = some o → dkB t o = true) := Lib.hid (fun hb j o hj h => by
     by_cases x : j = k
     ·subst x
      rw [HO.out] at h
      cases h; exact hb
     ·exact GD.out j o (by omega) h)
    have IDC := Lib.hid (fun W h => isDisk_calls ⟨f, m⟩ t Ai ci B W h2 h3 h)
    skip
    generalize dkB t ⟨f, m⟩ = ok at *
    clear GD HO
    subst hA
    have c_SB_0 := blk_cell SB.out 0 _ rfl
    have c_SB_1 := blk_cell SB.out 1 _ rfl
    have c_SB_2 := blk_cell SB.out 2 _ rfl
    have c_SB_3 := blk_cell SB.out 3 _ rfl
    have l_SB := blk_lt SB.out
    go_wp2_with fail
    clear c0 c1 hb9 c_SB_0 c_SB_1 c_SB_2 c_SB_3 l_SB
    have HB : Hid (Below wr.heap.size wr (wr.alloc (.cells #[.bool f, .slice Ai m.length ci] 46))) := Lib.hid (Bal (Below.refl _ _) _)
    have DB := Lib.hid (blk_new wr (.cells #[.bool f, .slice Ai m.length ci] 46))
    have LT_DB : Hid (w.heap.size < wr.heap.size ∧ w.heap.size ≤ wr.heap.size) := Lib.hid ⟨blk_lt SB.out, NN.out.size⟩
    replace NN := Lib.hid (Bgo NN.out HB.out)
    replace HD := Lib.hid (HD.out.next HB.out)
    replace HM := Lib.hid (HM.out.next HB.out)
    replace SB := Lib.hid (blk_next HB.out SB.out)
    clear HB
    generalize wr.alloc (.cells #[.bool f, .slice Ai m.length ci] 46) = W6 at *
    generalize wr.heap.size = g6 at *
    have c_DB_0 := blk_cell DB.out 0 _ rfl
    have c_DB_1 := blk_cell DB.out 1 _ rfl
    have l_DB := blk_lt DB.out
    refine (IDC.out _ HM.out).mono ?_
    rintro e w7 ⟨rfl, hb⟩
    clear c_DB_0 c_DB_1 l_DB
    replace NN := Lib.hid (Bgo NN.out hb)
    replace HD := Lib.hid (HD.out.next hb)
    replace HM := Lib.hid (HM.out.next hb)
    replace SB := Lib.hid (blk_next hb SB.out)
    replace DB := Lib.hid (blk_next hb DB.out)
    clear hb
    cases ok
    ·have R : Hid (res = 8) := Lib.hid (BADK.out rfl)
     clear BADK NEXT IN F2
     go_wp2_with fail
     go_ret
     exact ⟨ret_int R.out.symm, NN.out⟩
    have G2 := Lib.hid (NEXT.out rfl)
    clear NEXT BADK
    cases f
    ·have U2 : Hid (u = faN (ds.take (k + 1))) := Lib.hid (by rw [F2.out, US.out]; rfl)
     clear F2 US
     have c_DB_0 := blk_cell DB.out 0 _ rfl
     have c_DB_1 := blk_cell DB.out 1 _ rfl
     have l_DB := blk_lt DB.out
     have c_SB_0 := blk_cell SB.out 0 _ rfl
     have c_SB_1 := blk_cell SB.out 1 _ rfl
     have c_SB_2 := blk_cell SB.out 2 _ rfl
     have c_SB_3 := blk_cell SB.out 3 _ rfl
     have l_SB := blk_lt SB.out
     go_wp2_with fail
     clear c_DB_0 c_DB_1 l_DB c_SB_0 c_SB_1 c_SB_2 c_SB_3 l_SB
     go_roundw
     case rel => exact ⟨k + 1, u, kk, by go_num, rfl, by omega, U2, G2, NN, HD, SB⟩
     case measure => simp [intOf]; omega
    ·have U2 : Hid (u + 1 = faN (ds.take (k + 1))) := Lib.hid (by rw [F2.out, US.out]; rfl)
     clear F2 US
     have c_DB_0 := blk_cell DB.out 0 _ rfl
     have c_DB_1 := blk_cell DB.out 1 _ rfl
     have l_DB := blk_lt DB.out
     have c_SB_0 := blk_cell SB.out 0 _ rfl
     have c_SB_1 := blk_cell SB.out 1 _ rfl
     have c_SB_2 := blk_cell SB.out 2 _ rfl
     have c_SB_3 := blk_cell SB.out 3 _ rfl
     have l_SB := blk_lt SB.out
     go_wp2_with fail
     clear c_DB_0 c_DB_1 l_DB c_SB_0 c_SB_1 c_SB_2 c_SB_3 l_SB
     go_roundw
     case rel => exact ⟨k + 1, u + 1, kk, by go_num, by go_num, by omega, U2, G2, NN, HD, SB⟩
     case measure => simp [intOf]; omega
  obtain ⟨o, ho⟩ := get_some hlt
  have HLO := HL.out o (List.mem_of_getElem? ho)
  obtain ⟨b, off, hA, hb9, c0, c1, c2, c3, c4⟩ := HS.out.at_ ho
  have HO := Lib.hid ho
  have ONE : Hid (oneO d os k o = (objB d t o && (findL (os.take k) o.name.toList == -1))) := Lib.hid (by unfold oneO; rw [TS.out])
  have TKL : (os.take k).length = k := by rw [List.length_take]; omega
  have OC := Lib.hid (fun W => isObject_calls o d t W d1 d8 HLO)
  have FC : Hid (∀ W, RO B W A (os.take k) → Calls Try.prog 44 #[.slice A k ca, .string o.name] W fun e w' => e = .returned (.int .i64 (findL (os.take k) o.name.toList)) ∧ Below W.heap.size W w') := Lib.hid (fun W h => by have := oFind_calls A ca B (os.take k) o.name W (by omega) hca h; rw [TKL] at this; exact this)
  have FN := findL_nn (os := os.take k) (l := o.name.toList)
  have MB := Lib.hid (fun h => obj_many d1 d8 (show objB d t o = true from h))
  have BADK : Hid (oneO d os k o = false → res = 8) := Lib.hid (fun hb => by rw [IN.out]; exact if_neg (fun h => by have := h.1; rw [BADO.out k o HO.out hb] at this; cases this))
  have TN := Lib.hid (strN_take ho)
  obtain ⟨nm, sz, f, m, g⟩ := o
  simp only at HLO c0 c1 c2 c3 c4 ONE FC FN MB TN
  have NEXT : Hid (oneO d os k ⟨nm, sz, f, m, g⟩ = true → ∀ (j : Nat) (o : Ob), j < k + 1 → os[j]? = some o → oneO d os j o = true) := Lib.hid (fun hb j o hj h => by
   by_cases x : j = k
   ·subst x
    rw [HO.out] at h
    cases h; exact hb
   ·exact GD.out j o (by omega) h)
  have kk : k + 1 ≤ os.length := hlt
  have TKH := Lib.hid (fun W (h : RO B W A os) => h.take_ k)
  clear HLO ho GD HO TKL
  generalize findL (os.take k) nm.toList = ix at *
  generalize objB d t ⟨nm, sz, f, m, g⟩ = ob at *
  generalize oneO d os k ⟨nm, sz, f, m, g⟩ = on at *
  subst hA
  have c_SB_0 := blk_cell SB.out 0 _ rfl
  have c_SB_1 := blk_cell SB.out 1 _ rfl
  have c_SB_2 := blk_cell SB.out 2 _ rfl
  have c_SB_3 := blk_cell SB.out 3 _ rfl
  have l_SB := blk_lt SB.out
  go_wp2_with fail
  clear c0 c1 c2 c3 c4 hb9 c_SB_0 c_SB_1 c_SB_2 c_SB_3 l_SB
  have HB : Hid (Below wr.heap.size wr (wr.alloc (.cells #[.string nm, .int .i64 sz, .int .i64 f, .int .i64 m, .int .i64 g] 50))) := Lib.hid (Bal (Below.refl _ _) _)
  have OB := Lib.hid (blk_new wr (.cells #[.string nm, .int .i64 sz, .int .i64 f, .int .i64 m, .int .i64 g] 50))
  have LT_OB : Hid (w.heap.size < wr.heap.size ∧ w.heap.size ≤ wr.heap.size) := Lib.hid ⟨blk_lt SB.out, NN.out.size⟩
  replace NN := Lib.hid (Bgo NN.out HB.out)
  replace HS := Lib.hid (HS.out.next HB.out)
  replace HD := Lib.hid (HD.out.next HB.out)
  replace SB := Lib.hid (blk_next HB.out SB.out)
  clear HB
  generalize wr.alloc (.cells #[.string nm, .int .i64 sz, .int .i64 f, .int .i64 m, .int .i64 g] 50) = W8 at *
  generalize wr.heap.size = g8 at *
  cases ob
  ·have R : Hid (res = 8) := Lib.hid (BADK.out (by rw [ONE.out]; simp))
   clear BADK NEXT IN ONE TS TN MB
   refine region_I (S := SK [(0, g8, .cells #[.string nm, .int .i64 sz, .int .i64 f, .int .i64 m, .int .i64 g] 50), (2, w.heap.size, .cells #[.int .i64 d, .int .i64 p, .slice D ds.length cd, .slice (some ⟨b, off, none⟩) os.length ca] 25)]) (by kernel_rfl) ?_
   have HAL := Lib.hid (fun (k : Nat) => (show SK [(0, g8, .cells #[.string nm, .int .i64 sz, .int .i64 f, .int .i64 m, .int .i64 g] 50), (2, w.heap.size, .cells #[.int .i64 d, .int .i64 p, .slice D ds.length cd, .slice (some ⟨b, off, none⟩) os.length ca] 25)] k W8.drew from fun p hp e => by
    simp only [List.mem_cons, List.not_mem_nil, or_false] at hp
    rcases hp with rfl | rfl
    ·exact OB.out
    ·exact SB.out))
   have HDRW := Lib.hid (Below.drew (Below.refl W8.heap.size W8))
   replace NN := Lib.hid (Bgo NN.out HDRW.out)
   replace HS := Lib.hid (HS.out.next HDRW.out)
   replace HD := Lib.hid (HD.out.next HDRW.out)
   replace SB := Lib.hid (blk_next HDRW.out SB.out)
   replace OB := Lib.hid (blk_next HDRW.out OB.out)
   clear HDRW
   refine take_I 0 (.agg #[.string nm, .int .i64 sz, .int .i64 f, .int .i64 m, .int .i64 g]) (some 44) rfl (by kernel_rfl) (by kernel_rfl) (by kernel_rfl) rfl (fun _ _ _ h => h) (Or.inl ⟨by rfl, ?_⟩) (HAL.out 0) ?_
   ·intro X hX
    have hh := hX (0, g8, .cells #[.string nm, .int .i64 sz, .int .i64 f, .int .i64 m, .int .i64 g] 50) (List.Mem.head _) rfl
    have hh0 := blk_cell hh 0 _ rfl
    have hh1 := blk_cell hh 1 _ rfl
    have hh2 := blk_cell hh 2 _ rfl
    have hh3 := blk_cell hh 3 _ rfl
    have hh4 := blk_cell hh 4 _ rfl
    have hhl := blk_lt hh
    clear hh
    clear hX
    go_simp
   try simp only [Act.put, zA, zB, zC]
   refine take_I 1 (.pointer (some ⟨w.heap.size, 0, none⟩)) (some 45) rfl (by kernel_rfl) (by kernel_rfl) (by kernel_rfl) rfl (fun _ _ _ h => h) (Or.inl ⟨by rfl, ?_⟩) (SK.drop (by simp)) ?_
   ·intro X hX
    clear hX
    go_simp
   try simp only [Act.put, zA, zB, zC]
   refine take_I 2 (.int .i64 d) (some 46) rfl (by kernel_rfl) (by kernel_rfl) (by kernel_rfl) rfl (fun _ _ _ h => h) (Or.inl ⟨by rfl, ?_⟩) (HAL.out 2) ?_
   ·intro X hX
    have hh := hX (2, w.heap.size, .cells #[.int .i64 d, .int .i64 p, .slice D ds.length cd, .slice (some ⟨b, off, none⟩) os.length ca] 25) (List.Mem.tail _ (List.Mem.head _)) rfl
    have hh0 := blk_cell hh 0 _ rfl
    have hhl := blk_lt hh
    clear hh
    clear hX
    go_simp
   try simp only [Act.put, zA, zB, zC]
   refine take_I 3 (.int .i64 t) (some 47) rfl (by kernel_rfl) (by kernel_rfl) (by kernel_rfl) rfl (fun _ _ _ h => h) (Or.inl ⟨by rfl, ?_⟩) (SK.drop (by simp)) ?_
   ·intro X hX
    clear hX
    go_simp
   try simp only [Act.put, zA, zB, zC]
   refine only_I 4 (by kernel_rfl) rfl (fun K' hK' => ?_)
   go_simp
   go_at_call 54
   refine (OC.out _).mono ?_
   rintro e x9 ⟨rfl, hb⟩
   replace NN := Lib.hid (Bgo NN.out hb)
   replace HS := Lib.hid (HS.out.next hb)
   replace HD := Lib.hid (HD.out.next hb)
   replace SB := Lib.hid (blk_next hb SB.out)
   replace OB := Lib.hid (blk_next hb OB.out)
   go_simp
   refine hK'.out _ _ (fun k _ hS => hS.next hb) ?_
   clear hK' K'
   try simp only [Act.put, zA, zB, zC]
   replace HAL := Lib.hid (fun k => (HAL.out k).next hb)
   refine take_I 5 (.bool true) (some 49) rfl (by kernel_rfl) (by kernel_rfl) (by kernel_rfl) rfl (fun _ _ _ h => h) (Or.inl ⟨by rfl, ?_⟩) (SK.drop (by simp)) ?_
   ·intro X hX
    clear hX
    go_simp
   try simp only [Act.put, zA, zB, zC]
   refine take_I 6 (.bool true) (some 50) rfl (by kernel_rfl) (by kernel_rfl) (by kernel_rfl) rfl (fun _ _ _ h => h) (Or.inl ⟨by rfl, ?_⟩) (SK.drop (by simp)) ?_
   ·intro X hX
    clear hX
    go_simp
   try simp only [Act.put, zA, zB, zC]
   refine take_I 7 undef (some 51) rfl (by kernel_rfl) (by kernel_rfl) (by kernel_rfl) rfl (fun _ _ _ h => h) (Or.inr ⟨by rfl, rfl⟩) (HAL.out 7) ?_
   try simp only [Act.put, zA, zB, zC]
   refine take_I 8 undef (some 52) rfl (by kernel_rfl) (by kernel_rfl) (by kernel_rfl) rfl (fun _ _ _ h => h) (Or.inr ⟨by rfl, rfl⟩) (HAL.out 8) ?_
   try simp only [Act.put, zA, zB, zC]
   refine take_I 9 undef (some 53) rfl (by kernel_rfl) (by kernel_rfl) (by kernel_rfl) rfl (fun _ _ _ h => h) (Or.inr ⟨by rfl, rfl⟩) (HAL.out 9) ?_
   try simp only [Act.put, zA, zB, zC]
   refine take_I 10 undef (some 54) rfl (by kernel_rfl) (by kernel_rfl) (by kernel_rfl) rfl (fun _ _ _ h => h) (Or.inr ⟨by rfl, rfl⟩) (HAL.out 10) ?_
   try simp only [Act.put, zA, zB, zC]
   refine take_I 11 undef (some 55) rfl (by kernel_rfl) (by kernel_rfl) (by kernel_rfl) rfl (fun _ _ _ h => h) (Or.inr ⟨by rfl, rfl⟩) (HAL.out 11) ?_
   try simp only [Act.put, zA, zB, zC]
   refine take_I 12 undef (some 56) rfl (by kernel_rfl) (by kernel_rfl) (by kernel_rfl) rfl (fun _ _ _ h => h) (Or.inr ⟨by rfl, rfl⟩) (HAL.out 12) ?_
   try simp only [Act.put, zA, zB, zC]
   refine take_I 13 undef (some 57) rfl (by kernel_rfl) (by kernel_rfl) (by kernel_rfl) rfl (fun _ _ _ h => h) (Or.inr ⟨by rfl, rfl⟩) (HAL.out 13) ?_
   try simp only [Act.put, zA, zB, zC]
   refine take_I 14 undef (some 58) rfl (by kernel_rfl) (by kernel_rfl) (by kernel_rfl) rfl (fun _ _ _ h => h) (Or.inr ⟨by rfl, rfl⟩) (HAL.out 14) ?_
   try simp only [Act.put, zA, zB, zC]
   refine take_I 15 (.bool true) (some 59) rfl (by kernel_rfl) (by kernel_rfl) (by kernel_rfl) rfl (fun _ _ _ h => h) (Or.inl ⟨by rfl, ?_⟩) (SK.drop (by simp)) ?_
   ·intro X hX
    clear hX
    go_simp
   try simp only [Act.put, zA, zB, zC]
   clear HAL
   refine done_I (by kernel_rfl) ?_ _
   go_wp2_with fail
   go_ret
   exact ⟨ret_int R.out.symm, NN.out⟩
  by_cases q9 : ix = -1
  rotate_left
  ·have e9 : decide ((0 : Int) ≤ ix) = true := decide_eq_true (by omega)
   have R : Hid (res = 8) := Lib.hid (BADK.out (by rw [ONE.out, beq_eq_false_iff_ne.2 q9]; simp))
   clear BADK NEXT IN ONE TS TN MB
   refine region_I (S := SK [(0, g8, .cells #[.string nm, .int .i64 sz, .int .i64 f, .int .i64 m, .int .i64 g] 50), (2, w.heap.size, .cells #[.int .i64 d, .int .i64 p, .slice D ds.length cd, .slice (some ⟨b, off, none⟩) os.length ca] 25), (8, w.heap.size, .cells #[.int .i64 d, .int .i64 p, .slice D ds.length cd, .slice (some ⟨b, off, none⟩) os.length ca] 25), (12, g8, .cells #[.string nm, .int .i64 sz, .int .i64 f, .int .i64 m, .int .i64 g] 50)]) (by kernel_rfl) ?_
   have HAL := Lib.hid (fun (k : Nat) => (show SK [(0, g8, .cells #[.string nm, .int .i64 sz, .int .i64 f, .int .i64 m, .int .i64 g] 50), (2, w.heap.size, .cells #[.int .i64 d, .int .i64 p, .slice D ds.length cd, .slice (some ⟨b, off, none⟩) os.length ca] 25), (8, w.heap.size, .cells #[.int .i64 d, .int .i64 p, .slice D ds.length cd, .slice (some ⟨b, off, none⟩) os.length ca] 25), (12, g8, .cells #[.string nm, .int .i64 sz, .int .i64 f, .int .i64 m, .int .i64 g] 50)] k W8.drew from fun p hp e => by
    simp only [List.mem_cons, List.not_mem_nil, or_false] at hp
    rcases hp with rfl | rfl | rfl | rfl
    ·exact OB.out
    ·exact SB.out
    ·exact SB.out
    ·exact OB.out))
   have HDRW := Lib.hid (Below.drew (Below.refl W8.heap.size W8))
   replace NN := Lib.hid (Bgo NN.out HDRW.out)
   replace HS := Lib.hid (HS.out.next HDRW.out)
   replace HD := Lib.hid (HD.out.next HDRW.out)
   replace SB := Lib.hid (blk_next HDRW.out SB.out)
   replace OB := Lib.hid (blk_next HDRW.out OB.out)
   clear HDRW
   refine take_I 0 (.agg #[.string nm, .int .i64 sz, .int .i64 f, .int .i64 m, .int .i64 g]) (some 44) rfl (by kernel_rfl) (by kernel_rfl) (by kernel_rfl) rfl (fun _ _ _ h => h) (Or.inl ⟨by rfl, ?_⟩) (HAL.out 0) ?_
   ·intro X hX
    have hh := hX (0, g8, .cells #[.string nm, .int .i64 sz, .int .i64 f, .int .i64 m, .int .i64 g] 50) (List.Mem.head _) rfl
    have hh0 := blk_cell hh 0 _ rfl
    have hh1 := blk_cell hh 1 _ rfl
    have hh2 := blk_cell hh 2 _ rfl
    have hh3 := blk_cell hh 3 _ rfl
    have hh4 := blk_cell hh 4 _ rfl
    have hhl := blk_lt hh
    clear hh
    clear hX
    go_simp
   try simp only [Act.put, zA, zB, zC]
   refine take_I 1 (.pointer (some ⟨w.heap.size, 0, none⟩)) (some 45) rfl (by kernel_rfl) (by kernel_rfl) (by kernel_rfl) rfl (fun _ _ _ h => h) (Or.inl ⟨by rfl, ?_⟩) (SK.drop (by simp)) ?_
   ·intro X hX
    clear hX
    go_simp
   try simp only [Act.put, zA, zB, zC]
   refine take_I 2 (.int .i64 d) (some 46) rfl (by kernel_rfl) (by kernel_rfl) (by kernel_rfl) rfl (fun _ _ _ h => h) (Or.inl ⟨by rfl, ?_⟩) (HAL.out 2) ?_
   ·intro X hX
    have hh := hX (2, w.heap.size, .cells #[.int .i64 d, .int .i64 p, .slice D ds.length cd, .slice (some ⟨b, off, none⟩) os.length ca] 25) (List.Mem.tail _ (List.Mem.head _)) rfl
    have hh0 := blk_cell hh 0 _ rfl
    have hhl := blk_lt hh
    clear hh
    clear hX
    go_simp
   try simp only [Act.put, zA, zB, zC]
   refine take_I 3 (.int .i64 t) (some 47) rfl (by kernel_rfl) (by kernel_rfl) (by kernel_rfl) rfl (fun _ _ _ h => h) (Or.inl ⟨by rfl, ?_⟩) (SK.drop (by simp)) ?_
   ·intro X hX
    clear hX
    go_simp
   try simp only [Act.put, zA, zB, zC]
   refine only_I 4 (by kernel_rfl) rfl (fun K' hK' => ?_)
   go_simp
   go_at_call 54
   refine (OC.out _).mono ?_
   rintro e x10 ⟨rfl, hb⟩
   replace NN := Lib.hid (Bgo NN.out hb)
   replace HS := Lib.hid (HS.out.next hb)
   replace HD := Lib.hid (HD.out.next hb)
   replace SB := Lib.hid (blk_next hb SB.out)
   replace OB := Lib.hid (blk_next hb OB.out)
   go_simp
   refine hK'.out _ _ (fun k _ hS => hS.next hb) ?_
   clear hK' K'
   try simp only [Act.put, zA, zB, zC]
   replace HAL := Lib.hid (fun k => (HAL.out k).next hb)
   refine take_I 5 (.bool false) (some 49) rfl (by kernel_rfl) (by kernel_rfl) (by kernel_rfl) rfl (fun _ _ _ h => h) (Or.inl ⟨by rfl, ?_⟩) (SK.drop (by simp)) ?_
   ·intro X hX
    clear hX
    go_simp
   try simp only [Act.put, zA, zB, zC]
   refine take_I 6 (.bool false) (some 50) rfl (by kernel_rfl) (by kernel_rfl) (by kernel_rfl) rfl (fun _ _ _ h => h) (Or.inl ⟨by rfl, ?_⟩) (SK.drop (by simp)) ?_
   ·intro X hX
    clear hX
    go_simp
   try simp only [Act.put, zA, zB, zC]
   refine take_I 7 (.pointer (some ⟨w.heap.size, 3, none⟩)) (some 51) rfl (by kernel_rfl) (by kernel_rfl) (by kernel_rfl) rfl (fun _ _ _ h => h) (Or.inl ⟨by rfl, ?_⟩) (SK.drop (by simp)) ?_
   ·intro X hX
    clear hX
    go_simp
   try simp only [Act.put, zA, zB, zC]
   refine take_I 8 (.slice (some ⟨b, off, none⟩) os.length ca) (some 52) rfl (by kernel_rfl) (by kernel_rfl) (by kernel_rfl) rfl (fun _ _ _ h => h) (Or.inl ⟨by rfl, ?_⟩) (HAL.out 8) ?_
   ·intro X hX
    have hh := hX (8, w.heap.size, .cells #[.int .i64 d, .int .i64 p, .slice D ds.length cd, .slice (some ⟨b, off, none⟩) os.length ca] 25) (List.Mem.tail _ (List.Mem.tail _ (List.Mem.head _))) rfl
    have hh3 := blk_cell hh 3 _ rfl
    have hhl := blk_lt hh
    clear hh
    clear hX
    go_simp
   try simp only [Act.put, zA, zB, zC]
   refine take_I 9 (.int .i64 (k : Int)) (some 53) rfl (by kernel_rfl) (by kernel_rfl) (by kernel_rfl) rfl (fun _ _ _ h => h) (Or.inl ⟨by rfl, ?_⟩) (SK.drop (by simp)) ?_
   ·intro X hX
    clear hX
    go_simp
   try simp only [Act.put, zA, zB, zC]
   refine take_I 10 (.slice (some ⟨b, off, none⟩) k ca) (some 54) rfl (by kernel_rfl) (by kernel_rfl) (by kernel_rfl) rfl (fun _ _ _ h => h) (Or.inl ⟨by rfl, ?_⟩) (SK.drop (by simp)) ?_
   ·intro X hX
    clear hX
    go_simp
    all_goals (intro hbad; omega)
   try simp only [Act.put, zA, zB, zC]
   refine take_I 11 (.pointer (some ⟨g8, 0, none⟩)) (some 55) rfl (by kernel_rfl) (by kernel_rfl) (by kernel_rfl) rfl (fun _ _ _ h => h) (Or.inl ⟨by rfl, ?_⟩) (SK.drop (by simp)) ?_
   ·intro X hX
    clear hX
    go_simp
   try simp only [Act.put, zA, zB, zC]
   refine take_I 12 (.string nm) (some 56) rfl (by kernel_rfl) (by kernel_rfl) (by kernel_rfl) rfl (fun _ _ _ h => h) (Or.inl ⟨by rfl, ?_⟩) (HAL.out 12) ?_
   ·intro X hX
    have hh := hX (12, g8, .cells #[.string nm, .int .i64 sz, .int .i64 f, .int .i64 m, .int .i64 g] 50) (List.Mem.tail _ (List.Mem.tail _ (List.Mem.tail _ (List.Mem.head _)))) rfl
    have hh0 := blk_cell hh 0 _ rfl
    have hhl := blk_lt hh
    clear hh
    clear hX
    go_simp
   try simp only [Act.put, zA, zB, zC]
   refine only_I 13 (by kernel_rfl) rfl (fun K' hK' => ?_)
   go_simp
   go_at_call 44
   refine (FC.out _ (TKH.out _ HS.out)).mono ?_
   rintro e x11 ⟨rfl, hb⟩
   replace NN := Lib.hid (Bgo NN.out hb)
   replace HS := Lib.hid (HS.out.next hb)
   replace HD := Lib.hid (HD.out.next hb)
   replace SB := Lib.hid (blk_next hb SB.out)
   replace OB := Lib.hid (blk_next hb OB.out)
   go_simp
   refine hK'.out _ _ (fun k _ hS => hS.next hb) ?_
   clear hK' K'
   try simp only [Act.put, zA, zB, zC]
   replace HAL := Lib.hid (fun k => (HAL.out k).next hb)
   refine take_I 14 (.bool true) (some 58) rfl (by kernel_rfl) (by kernel_rfl) (by kernel_rfl) rfl (fun _ _ _ h => h) (Or.inl ⟨by rfl, ?_⟩) (SK.drop (by simp)) ?_
   ·intro X hX
    clear hX
    go_simp
   try simp only [Act.put, zA, zB, zC]
   refine take_I 15 (.bool true) (some 59) rfl (by kernel_rfl) (by kernel_rfl) (by kernel_rfl) rfl (fun _ _ _ h => h) (Or.inl ⟨by rfl, ?_⟩) (SK.drop (by simp)) ?_
   ·intro X hX
    clear hX
    go_simp
   try simp only [Act.put, zA, zB, zC]
   clear HAL
   refine done_I (by kernel_rfl) ?_ _
   go_wp2_with fail
   go_ret
   exact ⟨ret_int R.out.symm, NN.out⟩
  have e9 : decide ((0 : Int) ≤ ix) = false := decide_eq_false (by omega)
  have ON1 : on = true := by rw [ONE.out, q9]; rfl
  have G2 := Lib.hid (NEXT.out ON1)
  have MB2 := MB.out rfl
  obtain ⟨mb1, mb2⟩ := MB2
  have T2 : Hid (t + m = strN (os.take (k + 1))) := Lib.hid (by rw [TN.out, TS.out])
  have HQ9 := Lib.hid q9
  clear q9 ON1 NEXT BADK ONE MB TN TS
  refine region_I (S := SK [(0, g8, .cells #[.string nm, .int .i64 sz, .int .i64 f, .int .i64 m, .int .i64 g] 50), (2, w.heap.size, .cells #[.int .i64 d, .int .i64 p, .slice D ds.length cd, .slice (some ⟨b, off, none⟩) os.length ca] 25), (8, w.heap.size, .cells #[.int .i64 d, .int .i64 p, .slice D ds.length cd, .slice (some ⟨b, off, none⟩) os.length ca] 25), (12, g8, .cells #[.string nm, .int .i64 sz, .int .i64 f, .int .i64 m, .int .i64 g] 50)]) (by kernel_rfl) ?_
  have HAL := Lib.hid (fun (k : Nat) => (show SK [(0, g8, .cells #[.string nm, .int .i64 sz, .int .i64 f, .int .i64 m, .int .i64 g] 50), (2, w.heap.size, .cells #[.int .i64 d, .int .i64 p, .slice D ds.length cd, .slice (some ⟨b, off, none⟩) os.length ca] 25), (8, w.heap.size, .cells #[.int .i64 d, .int .i64 p, .slice D ds.length cd, .slice (some ⟨b, off, none⟩) os.length ca] 25), (12, g8, .cells #[.string nm, .int .i64 sz, .int .i64 f, .int .i64 m, .int .i64 g] 50)] k W8.drew from fun p hp e => by
   simp only [List.mem_cons, List.not_mem_nil, or_false] at hp
   rcases hp with rfl | rfl | rfl | rfl
   ·exact OB.out
   ·exact SB.out
   ·exact SB.out
   ·exact OB.out))
  have HDRW := Lib.hid (Below.drew (Below.refl W8.heap.size W8))
  replace NN := Lib.hid (Bgo NN.out HDRW.out)
  replace HS := Lib.hid (HS.out.next HDRW.out)
  replace HD := Lib.hid (HD.out.next HDRW.out)
  replace SB := Lib.hid (blk_next HDRW.out SB.out)
  replace OB := Lib.hid (blk_next HDRW.out OB.out)
  clear HDRW
  refine take_I 0 (.agg #[.string nm, .int .i64 sz, .int .i64 f, .int .i64 m, .int .i64 g]) (some 44) rfl (by kernel_rfl) (by kernel_rfl) (by kernel_rfl) rfl (fun _ _ _ h => h) (Or.inl ⟨by rfl, ?_⟩) (HAL.out 0) ?_
  ·intro X hX
   have hh := hX (0, g8, .cells #[.string nm, .int .i64 sz, .int .i64 f, .int .i64 m, .int .i64 g] 50) (List.Mem.head _) rfl
   have hh0 := blk_cell hh 0 _ rfl
   have hh1 := blk_cell hh 1 _ rfl
   have hh2 := blk_cell hh 2 _ rfl
   have hh3 := blk_cell hh 3 _ rfl
   have hh4 := blk_cell hh 4 _ rfl
   have hhl := blk_lt hh
   clear hh
   clear hX
   go_simp
  try simp only [Act.put, zA, zB, zC]
  refine take_I 1 (.pointer (some ⟨w.heap.size, 0, none⟩)) (some 45) rfl (by kernel_rfl) (by kernel_rfl) (by kernel_rfl) rfl (fun _ _ _ h => h) (Or.inl ⟨by rfl, ?_⟩) (SK.drop (by simp)) ?_
  ·intro X hX
   clear hX
   go_simp
  try simp only [Act.put, zA, zB, zC]
  refine take_I 2 (.int .i64 d) (some 46) rfl (by kernel_rfl) (by kernel_rfl) (by kernel_rfl) rfl (fun _ _ _ h => h) (Or.inl ⟨by rfl, ?_⟩) (HAL.out 2) ?_
  ·intro X hX
   have hh := hX (2, w.heap.size, .cells #[.int .i64 d, .int .i64 p, .slice D ds.length cd, .slice (some ⟨b, off, none⟩) os.length ca] 25) (List.Mem.tail _ (List.Mem.head _)) rfl
   have hh0 := blk_cell hh 0 _ rfl
   have hhl := blk_lt hh
   clear hh
   clear hX
   go_simp
  try simp only [Act.put, zA, zB, zC]
  refine take_I 3 (.int .i64 t) (some 47) rfl (by kernel_rfl) (by kernel_rfl) (by kernel_rfl) rfl (fun _ _ _ h => h) (Or.inl ⟨by rfl, ?_⟩) (SK.drop (by simp)) ?_
  ·intro X hX
   clear hX
   go_simp
  try simp only [Act.put, zA, zB, zC]
  refine only_I 4 (by kernel_rfl) rfl (fun K' hK' => ?_)
  go_simp
  go_at_call 54
  refine (OC.out _).mono ?_
  rintro e x12 ⟨rfl, hb⟩
  replace NN := Lib.hid (Bgo NN.out hb)
  replace HS := Lib.hid (HS.out.next hb)
  replace HD := Lib.hid (HD.out.next hb)
  replace SB := Lib.hid (blk_next hb SB.out)
  replace OB := Lib.hid (blk_next hb OB.out)
  go_simp
  refine hK'.out _ _ (fun k _ hS => hS.next hb) ?_
  clear hK' K'
  try simp only [Act.put, zA, zB, zC]
  replace HAL := Lib.hid (fun k => (HAL.out k).next hb)
  refine take_I 5 (.bool false) (some 49) rfl (by kernel_rfl) (by kernel_rfl) (by kernel_rfl) rfl (fun _ _ _ h => h) (Or.inl ⟨by rfl, ?_⟩) (SK.drop (by simp)) ?_
  ·intro X hX
   clear hX
   go_simp
  try simp only [Act.put, zA, zB, zC]
  refine take_I 6 (.bool false) (some 50) rfl (by kernel_rfl) (by kernel_rfl) (by kernel_rfl) rfl (fun _ _ _ h => h) (Or.inl ⟨by rfl, ?_⟩) (SK.drop (by simp)) ?_
  ·intro X hX
   clear hX
   go_simp
  try simp only [Act.put, zA, zB, zC]
  refine take_I 7 (.pointer (some ⟨w.heap.size, 3, none⟩)) (some 51) rfl (by kernel_rfl) (by kernel_rfl) (by kernel_rfl) rfl (fun _ _ _ h => h) (Or.inl ⟨by rfl, ?_⟩) (SK.drop (by simp)) ?_
  ·intro X hX
   clear hX
   go_simp
  try simp only [Act.put, zA, zB, zC]
  refine take_I 8 (.slice (some ⟨b, off, none⟩) os.length ca) (some 52) rfl (by kernel_rfl) (by kernel_rfl) (by kernel_rfl) rfl (fun _ _ _ h => h) (Or.inl ⟨by rfl, ?_⟩) (HAL.out 8) ?_
  ·intro X hX
   have hh := hX (8, w.heap.size, .cells #[.int .i64 d, .int .i64 p, .slice D ds.length cd, .slice (some ⟨b, off, none⟩) os.length ca] 25) (List.Mem.tail _ (List.Mem.tail _ (List.Mem.head _))) rfl
   have hh3 := blk_cell hh 3 _ rfl
   have hhl := blk_lt hh
   clear hh
   clear hX
   go_simp
  try simp only [Act.put, zA, zB, zC]
  refine take_I 9 (.int .i64 (k : Int)) (some 53) rfl (by kernel_rfl) (by kernel_rfl) (by kernel_rfl) rfl (fun _ _ _ h => h) (Or.inl ⟨by rfl, ?_⟩) (SK.drop (by simp)) ?_
  ·intro X hX
   clear hX
   go_simp
  try simp only [Act.put, zA, zB, zC]
  refine take_I 10 (.slice (some ⟨b, off, none⟩) k ca) (some 54) rfl (by kernel_rfl) (by kernel_rfl) (by kernel_rfl) rfl (fun _ _ _ h => h) (Or.inl ⟨by rfl, ?_⟩) (SK.drop (by simp)) ?_
  ·intro X hX
   clear hX
   go_simp
   all_goals (intro hbad; omega)
  try simp only [Act.put, zA, zB, zC]
  refine take_I 11 (.pointer (some ⟨g8, 0, none⟩)) (some 55) rfl (by kernel_rfl) (by kernel_rfl) (by kernel_rfl) rfl (fun _ _ _ h => h) (Or.inl ⟨by rfl, ?_⟩) (SK.drop (by simp)) ?_
  ·intro X hX
   clear hX
   go_simp
  try simp only [Act.put, zA, zB, zC]
  refine take_I 12 (.string nm) (some 56) rfl (by kernel_rfl) (by kernel_rfl) (by kernel_rfl) rfl (fun _ _ _ h => h) (Or.inl ⟨by rfl, ?_⟩) (HAL.out 12) ?_
  ·intro X hX
   have hh := hX (12, g8, .cells #[.string nm, .int .i64 sz, .int .i64 f, .int .i64 m, .int .i64 g] 50) (List.Mem.tail _ (List.Mem.tail _ (List.Mem.tail _ (List.Mem.head _)))) rfl
   have hh0 := blk_cell hh 0 _ rfl
   have hhl := blk_lt hh
   clear hh
   clear hX
   go_simp
  try simp only [Act.put, zA, zB, zC]
  refine only_I 13 (by kernel_rfl) rfl (fun K' hK' => ?_)
  go_simp
  go_at_call 44
  refine (FC.out _ (TKH.out _ HS.out)).mono ?_
  rintro e x13 ⟨rfl, hb⟩
  replace NN := Lib.hid (Bgo NN.out hb)
  replace HS := Lib.hid (HS.out.next hb)
  replace HD := Lib.hid (HD.out.next hb)
  replace SB := Lib.hid (blk_next hb SB.out)
  replace OB := Lib.hid (blk_next hb OB.out)
  go_simp
  refine hK'.out _ _ (fun k _ hS => hS.next hb) ?_
  clear hK' K'
  try simp only [Act.put, zA, zB, zC]
  replace HAL := Lib.hid (fun k => (HAL.out k).next hb)
  refine take_I 14 (.bool false) (some 58) rfl (by kernel_rfl) (by kernel_rfl) (by kernel_rfl) rfl (fun _ _ _ h => h) (Or.inl ⟨by rfl, ?_⟩) (SK.drop (by simp)) ?_
  ·intro X hX
   clear hX
   go_simp
  try simp only [Act.put, zA, zB, zC]
  refine take_I 15 (.bool false) (some 59) rfl (by kernel_rfl) (by kernel_rfl) (by kernel_rfl) rfl (fun _ _ _ h => h) (Or.inl ⟨by rfl, ?_⟩) (SK.drop (by simp)) ?_
  ·intro X hX
   clear hX
   go_simp
  try simp only [Act.put, zA, zB, zC]
  clear HAL
  refine done_I (by kernel_rfl) ?_ _
  have c_OB_0 := blk_cell OB.out 0 _ rfl
  have c_OB_1 := blk_cell OB.out 1 _ rfl
  have c_OB_2 := blk_cell OB.out 2 _ rfl
  have c_OB_3 := blk_cell OB.out 3 _ rfl
  have c_OB_4 := blk_cell OB.out 4 _ rfl
  have l_OB := blk_lt OB.out
  go_wp2_with fail
  clear c_OB_0 c_OB_1 c_OB_2 c_OB_3 c_OB_4 l_OB
  go_roundw
  case rel => exact ⟨k + 1, t + m, kk, by go_num, by go_num, by omega, by omega, T2, G2, NN, HS, HD, SB⟩
  case measure => simp [intOf]; omega
end Go.Proofs.Ytapehckcmmompaa
namespace Go.Proofs.Ytapehckcmmompaa
open Go.ChangeShapes Go.WideShapes Go.ChangeAt Go.RowKit
set_option linter.unusedVariables false
set_option maxRecDepth 100000
attribute [local go_sem ↓] Go.wp_at_zero Go.wp_at_succ
def eqO (o o' : Ob) : Bool := (o.name.toList == o'.name.toList) && ((o.size == o'.size) && ((o.from_ == o'.from_) && ((o.many == o'.many) && (o.dig == o'.dig))))
theorem toList_inj {s t : ByteArray} (h : s.toList = t.toList) : s = t := by
 have e : s.data = t.data := by
  apply Array.toList_inj.1
  rw [← ByteArray.toList_eq, ← ByteArray.toList_eq]; exact h
 cases s; cases t; simp at e; rw [e]
theorem eqO_iff {o o' : Ob} : eqO o o' = true ↔ o = o' := by
 obtain ⟨a, b, c, d, e⟩ := o
 obtain ⟨a', b', c', d', e'⟩ := o'
 unfold eqO
 simp only [Bool.and_eq_true, beq_iff_eq, Ob.mk.injEq]
 constructor
 ·rintro ⟨h, r⟩; exact ⟨toList_inj h, r⟩
 ·rintro ⟨h, r⟩; exact ⟨by rw [h], r⟩
theorem eqOb (o o' : Ob) (w : World) : (Op.equalIn 10000 50 (obV o) (obV o')).run Try.prog w = .ok (eqO o o') w := by
 obtain ⟨a, b, c, d, e⟩ := o
 obtain ⟨a', b', c', d', e'⟩ := o'
 have u3 := Try.underlying3
 have a3 := Try.isAgg3
 have z3 := Try.sizeOf3
 have u9 := Try.underlying9
 have a9 := Try.isAgg9
 have z9 := Try.sizeOf9
 rw [show (10000 : Nat) = 9999 + 1 from rfl, Op.equalIn]
 simp only [Sem.run_bind, run_underlying Try.underlying50, Result.andThen_ok]
 go_simp
 unfold eqO
 by_cases h1 : a.toList = a'.toList <;> by_cases h2 : b = b' <;> by_cases h3 : c = c' <;> by_cases h4 : d = d' <;> by_cases h5 : e = e' <;> simp [h1, h2, h3, h4, h5]
open Classical in
noncomputable def smB (d p : Int) (ds : List Dk) (os : List Ob) (d' p' : Int) (ds' : List Dk) (os' : List Ob) : Bool := decide (d = d' ∧ p = p' ∧ ds = ds' ∧ os = os')
open Classical in
theorem smB_iff {d p : Int} {ds : List Dk} {os : List Ob} {d' p' : Int} {ds' : List Dk} {os' : List Ob} : smB d p ds os d' p' ds' os' = true ↔ d = d' ∧ p = p' ∧ ds = ds' ∧ os = os' := by
 unfold smB
 simp only [decide_eq_true_eq]
theorem ext_all {α : Type} {m m' : List α} (hl : m.length = m'.length) (h : ∀ (j : Nat) (l l' : α), m[j]? = some l → m'[j]? = some l' → l = l') : m = m' := by
 apply List.ext_getElem?
 intro i
 by_cases hi : i < m.length
 ·obtain ⟨l, e⟩ := get_some hi
  obtain ⟨l', e'⟩ := get_some (show i < m'.length by omega)
  rw [e, e', h i l l' e e']
 ·rw [List.getElem?_eq_none (by omega), List.getElem?_eq_none (by omega)]
attribute [local go_sem ↓] eqOb
theorem RD.drewN {B : Nat} {w : World} {A : Option Addr} {ds : List Dk} (h : RD B w A ds) (n : Nat) : RD B (w.drewN n) A ds := h
theorem RO.drewN {B : Nat} {w : World} {A : Option Addr} {os : List Ob} (h : RO B w A os) (n : Nat) : RO B (w.drewN n) A os := h
set_option maxHeartbeats 16000000 in
theorem sameT_calls (d p : Int) (D A : Option Addr) (cd ca B : Nat) (ds : List Dk) (os : List Ob) (d' p' : Int) (D' A' : Option Addr) (cd' ca' B' : Nat) (ds' : List Dk) (os' : List Ob) (w : World)
  (hnd : ds.length ≤ cd) (hcd : cd ≤ 9223372036854775807) (hna : os.length ≤ ca) (hca : ca ≤ 9223372036854775807) (hd : RD B w D ds) (hs : RO B w A os)
  (hnd' : ds'.length ≤ cd') (hcd' : cd' ≤ 9223372036854775807) (hna' : os'.length ≤ ca') (hca' : ca' ≤ 9223372036854775807) (hd' : RD B' w D' ds') (hs' : RO B' w A' os') :
  Calls Try.prog 20 #[Tv d p (.slice D ds.length cd) (.slice A os.length ca), Tv d' p' (.slice D' ds'.length cd') (.slice A' os'.length ca')] w fun e w' => e = .returned (.bool (smB d p ds os d' p' ds' os')) ∧ Below w.heap.size w w' := by
 have NO : Hid (¬ (d = d' ∧ p = p' ∧ ds = ds' ∧ os = os') → smB d p ds os d' p' ds' os' = false) := Lib.hid (fun h => by cases e : smB d p ds os d' p' ds' os' with | false => rfl | true => exact absurd (smB_iff.1 e) h)
 have YES : Hid ((d = d' ∧ p = p' ∧ ds = ds' ∧ os = os') → smB d p ds os d' p' ds' os' = true) := Lib.hid smB_iff.2
 generalize smB d p ds os d' p' ds' os' = res at *
 have HD := Lib.hid hd
 have HS := Lib.hid hs
 have HD' := Lib.hid hd'
 have HS' := Lib.hid hs'
 clear hd hs hd' hs'
 by_cases c1 : d = d'
 rotate_left
 ·have q_c1 : (d != d') = true := by rw [bne_iff_ne]; omega
  have F : Hid (res = false) := Lib.hid (NO.out (fun h => c1 h.1))
  clear NO YES HD HS HD' HS'
  go_enter Try.func20, Try.ntmps20
  go_wp2_with fail
  go_ret
  exact ⟨ret_bool F.out.symm, Bal (Bal (Below.refl _ _) _) _⟩
 have q_c1 : (d != d') = false := by rw [bne_eq_false_iff_eq]; omega
 by_cases c2 : p = p'
 rotate_left
 ·have q_c2 : (p != p') = true := by rw [bne_iff_ne]; omega
  have F : Hid (res = false) := Lib.hid (NO.out (fun h => c2 h.2.1))
  clear NO YES HD HS HD' HS'
  go_enter Try.func20, Try.ntmps20
  go_wp2_with fail
  go_ret
  exact ⟨ret_bool F.out.symm, Bal (Bal (Below.refl _ _) _) _⟩
 have q_c2 : (p != p') = false := by rw [bne_eq_false_iff_eq]; omega
 by_cases c3 : ds.length = ds'.length
 rotate_left
 ·have q_c3 : ((ds.length : Int) != (ds'.length : Int)) = true := by rw [bne_iff_ne]; omega
  have F : Hid (res = false) := Lib.hid (NO.out (fun h => c3 (by rw [h.2.2.1])))
  clear NO YES HD HS HD' HS'
  go_enter Try.func20, Try.ntmps20
  go_wp2_with fail
  go_ret
  exact ⟨ret_bool F.out.symm, Bal (Bal (Below.refl _ _) _) _⟩
 have q_c3 : ((ds.length : Int) != (ds'.length : Int)) = false := by rw [bne_eq_false_iff_eq]; omega
 by_cases c4 : os.length = os'.length
 rotate_left
 ·have q_c4 : ((os.length : Int) != (os'.length : Int)) = true := by rw [bne_iff_ne]; omega
  have F : Hid (res = false) := Lib.hid (NO.out (fun h => c4 (by rw [h.2.2.2])))
  clear NO YES HD HS HD' HS'
  go_enter Try.func20, Try.ntmps20
  go_wp2_with fail
  go_ret
  exact ⟨ret_bool F.out.symm, Bal (Bal (Below.refl _ _) _) _⟩
 have q_c4 : ((os.length : Int) != (os'.length : Int)) = false := by rw [bne_eq_false_iff_eq]; omega
 have C1 := Lib.hid c1
 have C2 := Lib.hid c2
 have C3 := Lib.hid c3
 have C4 := Lib.hid c4
 clear c1 c2 c3 c4
 go_enter Try.func20, Try.ntmps20
 go_wp2_with fail
 have SA : Hid (((w.alloc (.cells #[.int .i64 d, .int .i64 p, .slice D ds.length cd, .slice A os.length ca] 25)).alloc (.cells #[.int .i64 d', .int .i64 p', .slice D' ds'.length cd', .slice A' os'.length ca'] 25)).heap[w.heap.size]? = some (.cells #[.int .i64 d, .int .i64 p, .slice D ds.length cd, .slice A os.length ca] 25)) := Lib.hid (blk_alloc (blk_new w _) _)
 have SB : Hid (((w.alloc (.cells #[.int .i64 d, .int .i64 p, .slice D ds.length cd, .slice A os.length ca] 25)).alloc (.cells #[.int .i64 d', .int .i64 p', .slice D' ds'.length cd', .slice A' os'.length ca'] 25)).heap[w.heap.size + 1]? = some (.cells #[.int .i64 d', .int .i64 p', .slice D' ds'.length cd', .slice A' os'.length ca'] 25)) := Lib.hid (blk_at _ (by simp))
 have NN : Hid (Below w.heap.size w ((w.alloc (.cells #[.int .i64 d, .int .i64 p, .slice D ds.length cd, .slice A os.length ca] 25)).alloc (.cells #[.int .i64 d', .int .i64 p', .slice D' ds'.length cd', .slice A' os'.length ca'] 25))) := Lib.hid (Bal (Bal (Below.refl _ _) _) _)
 replace HD := Lib.hid (HD.out.next NN.out)
 replace HS := Lib.hid (HS.out.next NN.out)
 replace HD' := Lib.hid (HD'.out.next NN.out)
 replace HS' := Lib.hid (HS'.out.next NN.out)
 generalize ((w.alloc (.cells #[.int .i64 d, .int .i64 p, .slice D ds.length cd, .slice A os.length ca] 25)).alloc (.cells #[.int .i64 d', .int .i64 p', .slice D' ds'.length cd', .slice A' os'.length ca'] 25)) = W0 at *
 go_loopw [5] (fun i wr => ∃ k : Nat, k ≤ os.length ∧ i = .int .i64 k ∧ Hid (Below w.heap.size w wr) ∧ Hid (wr.heap[w.heap.size]? = some (.cells #[.int .i64 d, .int .i64 p, .slice D ds.length cd, .slice A os.length ca] 25)) ∧ Hid (wr.heap[w.heap.size + 1]? = some (.cells #[.int .i64 d', .int .i64 p', .slice D' ds'.length cd', .slice A' os'.length ca'] 25)) ∧ Hid (RD B wr D ds) ∧ Hid (RD B' wr D' ds') ∧ Hid (RO B wr A os) ∧ Hid (RO B' wr A' os') ∧ Hid (∀ (j : Nat) (l l' : Ob), j < k → os[j]? = some l → os'[j]? = some l' → l = l')) (fun i _ => os.length - (intOf i).toNat)
 case atStart => exact ⟨0, by omega, rfl, NN, SA, SB, HD, HD', HS, HS', Lib.hid (fun j l l' h => by omega)⟩
 case round =>
  clear NN SA SB HD HS HD' HS'
  obtain ⟨k, hk, rfl, NN, SA, SB, HD, HD', HS, HS', GO⟩ := hrel
  by_cases hlt : k < os.length
  rotate_left
  ·obtain rfl : k = os.length := by omega
   have OE : Hid (os = os') := Lib.hid (ext_all C4.out (fun j l l' h h' => GO.out j l l' (get_lt h) h h'))
   clear GO hk HS HS'
   have x2 := blk_cell SA.out 2 _ rfl
   have x3 := blk_cell SA.out 3 _ rfl
   have y2 := blk_cell SB.out 2 _ rfl
   have y3 := blk_cell SB.out 3 _ rfl
   have hz := blk_lt SB.out
   have hz0 := blk_lt SA.out
   go_wp2_with fail
   clear x2 x3 y2 y3 hz hz0
   go_loopw [6] (fun i wr => ∃ k : Nat, k ≤ ds.length ∧ i = .int .i64 k ∧ Hid (Below w.heap.size w wr) ∧ Hid (wr.heap[w.heap.size]? = some (.cells #[.int .i64 d, .int .i64 p, .slice D ds.length cd, .slice A os.length ca] 25)) ∧ Hid (wr.heap[w.heap.size + 1]? = some (.cells #[.int .i64 d', .int .i64 p', .slice D' ds'.length cd', .slice A' os'.length ca'] 25)) ∧ Hid (RD B wr D ds) ∧ Hid (RD B' wr D' ds') ∧ Hid (∀ (j : Nat) (l l' : Dk), j < k → ds[j]? = some l → ds'[j]? = some l' → l = l')) (fun i _ => ds.length - (intOf i).toNat)
   case atStart => exact ⟨0, by omega, rfl, NN, SA, SB, HD, HD', Lib.hid (fun j l l' h => by omega)⟩
   case round =>
    clear NN SA SB HD HD'
    obtain ⟨k, hk, rfl, NN, SA, SB, HD, HD', GD⟩ := hrel
    by_cases hlt : k < ds.length
    rotate_left
    ·obtain rfl : k = ds.length := by omega
     have R : Hid (res = true) := Lib.hid (YES.out ⟨C1.out, C2.out, ext_all C3.out (fun j l l' h h' => GD.out j l l' (get_lt h) h h'), OE.out⟩)
     have x2 := blk_cell SA.out 2 _ rfl
     have x3 := blk_cell SA.out 3 _ rfl
     have y2 := blk_cell SB.out 2 _ rfl
     have y3 := blk_cell SB.out 3 _ rfl
     have hz := blk_lt SB.out
     have hz0 := blk_lt SA.out
     go_wp2_with fail
     go_ret
     exact ⟨ret_bool R.out.symm, NN.out⟩
    obtain ⟨o, ho⟩ := get_some hlt
    obtain ⟨o', ho'⟩ := get_some (show k < ds'.length by rw [← C3.out]; exact hlt)
    have HO := Lib.hid ho
    have HO' := Lib.hid ho'
    clear ho ho'
    have BAD : Hid (o ≠ o' → res = false) := Lib.hid (fun h => NO.out (fun e => h (by have h1 := HO.out; rw [e.2.2.1, HO'.out] at h1; cases h1; rfl)))
    have NX : Hid (o = o' → ∀ (j : Nat) (l l' : Dk), j < k + 1 → ds[j]? = some l → ds'[j]? = some l' → l = l') := Lib.hid (fun h j l l' hj hl hl' => by
     by_cases x : j = k
     ·subst x
      rw [HO.out] at hl
      rw [HO'.out] at hl'
      cases hl; cases hl'; exact h
     ·exact GD.out j l l' (by omega) hl hl')
    clear GD NO YES OE
    have k2 : (k : Int) < (ds.length : Int) := by omega
    have k3 : (k : Int) < (ds'.length : Int) := by rw [← C3.out]; exact k2
    have kk : k + 1 ≤ ds.length := hlt
    obtain ⟨f, m⟩ := o
    obtain ⟨f', m'⟩ := o'
    obtain ⟨b, off, Ai, ci, rfl, hb, c0, c1, h2, h3, HM⟩ := HD.out.at_ HO.out
    obtain ⟨b', off', Ai', ci', rfl, hb', c0', c1', h2', h3', HM'⟩ := HD'.out.at_ HO'.out
    clear HM HM'
    simp only at c0 c1 h2 c0' c1' h2'
    cases f <;> cases f'
    ·by_cases c5 : m.length = m'.length
     rotate_left
     ·have q5 : ((m.length : Int) != (m'.length : Int)) = true := by rw [bne_iff_ne]; omega
      have F : Hid (res = false) := Lib.hid (BAD.out (fun h => c5 (by injection h with _ h; rw [h])))
      clear BAD NX HO HO'
      have x2 := blk_cell SA.out 2 _ rfl
      have x3 := blk_cell SA.out 3 _ rfl
      have y2 := blk_cell SB.out 2 _ rfl
      have y3 := blk_cell SB.out 3 _ rfl
      have hz := blk_lt SB.out
      have hz0 := blk_lt SA.out
      go_wp2_with fail
      go_quiet (fail)
      go_wp2_with fail
      go_ret
      exact ⟨ret_bool F.out.symm, below_drewN NN.out _⟩
     have q5 : ((m.length : Int) != (m'.length : Int)) = false := by rw [bne_eq_false_iff_eq]; omega
     have CM := Lib.hid c5
     clear c5
     have x2 := blk_cell SA.out 2 _ rfl
     have x3 := blk_cell SA.out 3 _ rfl
     have y2 := blk_cell SB.out 2 _ rfl
     have y3 := blk_cell SB.out 3 _ rfl
     have hz := blk_lt SB.out
     have hz0 := blk_lt SA.out
     go_wp2_with fail
     go_quiet (fail)
     go_wp2_with fail
     clear x2 x3 y2 y3 hz hz0 c0 c1 c0' c1' hb hb' h2 h3 h2' h3'
     go_loopw [7] (fun i wr => ∃ j : Nat, j ≤ m.length ∧ i = .int .i64 j ∧ Hid (Below w.heap.size w wr) ∧ Hid (wr.heap[w.heap.size]? = some (.cells #[.int .i64 d, .int .i64 p, .slice (some ⟨b, off, none⟩) ds.length cd, .slice A os.length ca] 25)) ∧ Hid (wr.heap[w.heap.size + 1]? = some (.cells #[.int .i64 d', .int .i64 p', .slice (some ⟨b', off', none⟩) ds'.length cd', .slice A' os'.length ca'] 25)) ∧ Hid (RD B wr (some ⟨b, off, none⟩) ds) ∧ Hid (RD B' wr (some ⟨b', off', none⟩) ds') ∧ Hid (∀ (t : Nat) (l l' : List Nat), t < j → m[t]? = some l → m'[t]? = some l' → l = l')) (fun i _ => m.length - (intOf i).toNat)
     case atStart => exact ⟨0, by omega, rfl, Lib.hid (below_drewN NN.out _), Lib.hid (blk_drewN SA.out _), Lib.hid (blk_drewN SB.out _), Lib.hid (HD.out.drewN _), Lib.hid (HD'.out.drewN _), Lib.hid (fun j l l' h => by omega)⟩
     case round =>
      clear NN SA SB HD HD'
      obtain ⟨j, hj, rfl, NN, SA, SB, HD, HD', GB⟩ := hrel
      obtain ⟨bb, oo, Ai, ci, ee, hb, c0, c1, h2, h3, HM⟩ := HD.out.at_ HO.out
      obtain ⟨bb', oo', Ai', ci', ee', hb', c0', c1', h2', h3', HM'⟩ := HD'.out.at_ HO'.out
      injection ee with ee
      injection ee with ee1 ee2
      subst ee1 ee2
      injection ee' with ee'
      injection ee' with ee1 ee2
      subst ee1 ee2
      simp only at c0 c1 h2 c0' c1' h2'
      replace HM : Hid (RMA B wr Ai m) := Lib.hid HM
      replace HM' : Hid (RMA B' wr Ai' m') := Lib.hid HM'
      by_cases hlt2 : j < m.length
      rotate_left
      ·obtain rfl : j = m.length := by omega
       have G2 := Lib.hid (NX.out (by rw [ext_all CM.out (fun j l l' h h' => GB.out j l l' (get_lt h) h h')]))
       clear GB NX BAD HO HO' HM HM'
       have x2 := blk_cell SA.out 2 _ rfl
       have x3 := blk_cell SA.out 3 _ rfl
       have y2 := blk_cell SB.out 2 _ rfl
       have y3 := blk_cell SB.out 3 _ rfl
       have hz := blk_lt SB.out
       have hz0 := blk_lt SA.out
       go_wp2_with fail
       clear x2 x3 y2 y3 hz hz0
       go_roundw
       case rel => exact ⟨k + 1, kk, by go_num, NN, SA, SB, HD, HD', G2⟩
       case measure => simp [intOf]; omega
      obtain ⟨l, hl⟩ := get_some hlt2
      obtain ⟨l', hl'⟩ := get_some (show j < m'.length by rw [← CM.out]; exact hlt2)
      have j2 : (j : Int) < (m.length : Int) := by omega
      have j3 : (j : Int) < (m'.length : Int) := by rw [← CM.out]; exact j2
      have jj : j + 1 ≤ m.length := hlt2
      obtain ⟨b1, off1, A1, e1, rfl, hb1, i1, i2, i3, i4⟩ := HM.out.at_ hl
      obtain ⟨b1', off1', A1', e1', rfl, hb1', i1', i2', i3', i4'⟩ := HM'.out.at_ hl'
      have cv1 : ∀ nq, (convert 26 9 (.slice A1 l.length e1)).run Try.prog (wr.drewN nq) = .ok (.string (bstr l)) (wr.drewN nq) := fun nq => conv_rba e1 (i4.drewN nq)
      have cv2 : ∀ nq, (convert 26 9 (.slice A1' l'.length e1')).run Try.prog (wr.drewN nq) = .ok (.string (bstr l')) (wr.drewN nq) := fun nq => conv_rba e1' (i4'.drewN nq)
      have q := bstr_eq i4.1 i4'.1
      have HL := Lib.hid hl
      have HL' := Lib.hid hl'
      clear hl hl' i4 i4' HM HM'
      by_cases e : l = l'
      ·have q' : ((bstr l).toList == (bstr l').toList) = true := by rw [q]; simp [e]
       have G2 : Hid (∀ (t : Nat) (l l' : List Nat), t < j + 1 → m[t]? = some l → m'[t]? = some l' → l = l') := Lib.hid (fun t x x' ht hx hx' => by
        by_cases y : t = j
        ·subst y
         rw [HL.out] at hx
         rw [HL'.out] at hx'
         cases hx; cases hx'; exact e
        ·exact GB.out t x x' (by omega) hx hx')
       clear e q GB BAD HL HL'
       generalize bstr l = sl at *
       generalize bstr l' = sl' at *
       have x2 := blk_cell SA.out 2 _ rfl
       have x3 := blk_cell SA.out 3 _ rfl
       have y2 := blk_cell SB.out 2 _ rfl
       have y3 := blk_cell SB.out 3 _ rfl
       have hz := blk_lt SB.out
       have hz0 := blk_lt SA.out
       go_wp2_with fail
       go_quiet (fail)
       go_wp2_with fail
       refine ⟨⟨j + 1, jj, by go_num, Lib.hid (below_drewN NN.out _), Lib.hid (blk_drewN SA.out _), Lib.hid (blk_drewN SB.out _), Lib.hid (HD.out.drewN _), Lib.hid (HD'.out.drewN _), G2⟩, by simp [intOf]; omega⟩
      ·have q' : ((bstr l).toList == (bstr l').toList) = false := by rw [q]; simp [e]
       have F : Hid (res = false) := Lib.hid (BAD.out (fun h => e (by have h1 := HL.out; have h9 : m = m' := (by injection h); rw [h9, HL'.out] at h1; cases h1; rfl)))
       clear e q GB BAD NX HL HL' HO HO'
       generalize bstr l = sl at *
       generalize bstr l' = sl' at *
       have x2 := blk_cell SA.out 2 _ rfl
       have x3 := blk_cell SA.out 3 _ rfl
       have y2 := blk_cell SB.out 2 _ rfl
       have y3 := blk_cell SB.out 3 _ rfl
       have hz := blk_lt SB.out
       have hz0 := blk_lt SA.out
       go_wp2_with fail
       go_quiet (fail)
       go_wp2_with fail
       go_ret
       exact ⟨ret_bool F.out.symm, below_drewN NN.out _⟩
    ·have zz := 0
     have F : Hid (res = false) := Lib.hid (BAD.out (fun h => by injection h with h; cases h))
     clear BAD NX HO HO'
     have x2 := blk_cell SA.out 2 _ rfl
     have x3 := blk_cell SA.out 3 _ rfl
     have y2 := blk_cell SB.out 2 _ rfl
     have y3 := blk_cell SB.out 3 _ rfl
     have hz := blk_lt SB.out
     have hz0 := blk_lt SA.out
     go_wp2_with fail
     go_quiet (fail)
     go_wp2_with fail
     go_ret
     exact ⟨ret_bool F.out.symm, below_drewN NN.out _⟩
    ·have zz := 0
     have F : Hid (res = false) := Lib.hid (BAD.out (fun h => by injection h with h; cases h))
     clear BAD NX HO HO'
     have x2 := blk_cell SA.out 2 _ rfl
     have x3 := blk_cell SA.out 3 _ rfl
     have y2 := blk_cell SB.out 2 _ rfl
     have y3 := blk_cell SB.out 3 _ rfl
     have hz := blk_lt SB.out
     have hz0 := blk_lt SA.out
     go_wp2_with fail
     go_quiet (fail)
     go_wp2_with fail
     go_ret
     exact ⟨ret_bool F.out.symm, below_drewN NN.out _⟩
    ·by_cases c5 : m.length = m'.length
     rotate_left
     ·have q5 : ((m.length : Int) != (m'.length : Int)) = true := by rw [bne_iff_ne]; omega
      have F : Hid (res = false) := Lib.hid (BAD.out (fun h => c5 (by injection h with _ h; rw [h])))
      clear BAD NX HO HO'
      have x2 := blk_cell SA.out 2 _ rfl
      have x3 := blk_cell SA.out 3 _ rfl
      have y2 := blk_cell SB.out 2 _ rfl
      have y3 := blk_cell SB.out 3 _ rfl
      have hz := blk_lt SB.out
      have hz0 := blk_lt SA.out
      go_wp2_with fail
      go_quiet (fail)
      go_wp2_with fail
      go_ret
      exact ⟨ret_bool F.out.symm, below_drewN NN.out _⟩
     have q5 : ((m.length : Int) != (m'.length : Int)) = false := by rw [bne_eq_false_iff_eq]; omega
     have CM := Lib.hid c5
     clear c5
     have x2 := blk_cell SA.out 2 _ rfl
     have x3 := blk_cell SA.out 3 _ rfl
     have y2 := blk_cell SB.out 2 _ rfl
     have y3 := blk_cell SB.out 3 _ rfl
     have hz := blk_lt SB.out
     have hz0 := blk_lt SA.out
     go_wp2_with fail
     go_quiet (fail)
     go_wp2_with fail
     clear x2 x3 y2 y3 hz hz0 c0 c1 c0' c1' hb hb' h2 h3 h2' h3'
     go_loopw [7] (fun i wr => ∃ j : Nat, j ≤ m.length ∧ i = .int .i64 j ∧ Hid (Below w.heap.size w wr) ∧ Hid (wr.heap[w.heap.size]? = some (.cells #[.int .i64 d, .int .i64 p, .slice (some ⟨b, off, none⟩) ds.length cd, .slice A os.length ca] 25)) ∧ Hid (wr.heap[w.heap.size + 1]? = some (.cells #[.int .i64 d', .int .i64 p', .slice (some ⟨b', off', none⟩) ds'.length cd', .slice A' os'.length ca'] 25)) ∧ Hid (RD B wr (some ⟨b, off, none⟩) ds) ∧ Hid (RD B' wr (some ⟨b', off', none⟩) ds') ∧ Hid (∀ (t : Nat) (l l' : List Nat), t < j → m[t]? = some l → m'[t]? = some l' → l = l')) (fun i _ => m.length - (intOf i).toNat)
     case atStart => exact ⟨0, by omega, rfl, Lib.hid (below_drewN NN.out _), Lib.hid (blk_drewN SA.out _), Lib.hid (blk_drewN SB.out _), Lib.hid (HD.out.drewN _), Lib.hid (HD'.out.drewN _), Lib.hid (fun j l l' h => by omega)⟩
     case round =>
      clear NN SA SB HD HD'
      obtain ⟨j, hj, rfl, NN, SA, SB, HD, HD', GB⟩ := hrel
      obtain ⟨bb, oo, Ai, ci, ee, hb, c0, c1, h2, h3, HM⟩ := HD.out.at_ HO.out
      obtain ⟨bb', oo', Ai', ci', ee', hb', c0', c1', h2', h3', HM'⟩ := HD'.out.at_ HO'.out
      injection ee with ee
      injection ee with ee1 ee2
      subst ee1 ee2
      injection ee' with ee'
      injection ee' with ee1 ee2
      subst ee1 ee2
      simp only at c0 c1 h2 c0' c1' h2'
      replace HM : Hid (RMA B wr Ai m) := Lib.hid HM
      replace HM' : Hid (RMA B' wr Ai' m') := Lib.hid HM'
      by_cases hlt2 : j < m.length
      rotate_left
      ·obtain rfl : j = m.length := by omega
       have G2 := Lib.hid (NX.out (by rw [ext_all CM.out (fun j l l' h h' => GB.out j l l' (get_lt h) h h')]))
       clear GB NX BAD HO HO' HM HM'
       have x2 := blk_cell SA.out 2 _ rfl
       have x3 := blk_cell SA.out 3 _ rfl
       have y2 := blk_cell SB.out 2 _ rfl
       have y3 := blk_cell SB.out 3 _ rfl
       have hz := blk_lt SB.out
       have hz0 := blk_lt SA.out
       go_wp2_with fail
       clear x2 x3 y2 y3 hz hz0
       go_roundw
       case rel => exact ⟨k + 1, kk, by go_num, NN, SA, SB, HD, HD', G2⟩
       case measure => simp [intOf]; omega
      obtain ⟨l, hl⟩ := get_some hlt2
      obtain ⟨l', hl'⟩ := get_some (show j < m'.length by rw [← CM.out]; exact hlt2)
      have j2 : (j : Int) < (m.length : Int) := by omega
      have j3 : (j : Int) < (m'.length : Int) := by rw [← CM.out]; exact j2
      have jj : j + 1 ≤ m.length := hlt2
      obtain ⟨b1, off1, A1, e1, rfl, hb1, i1, i2, i3, i4⟩ := HM.out.at_ hl
      obtain ⟨b1', off1', A1', e1', rfl, hb1', i1', i2', i3', i4'⟩ := HM'.out.at_ hl'
      have cv1 : ∀ nq, (convert 26 9 (.slice A1 l.length e1)).run Try.prog (wr.drewN nq) = .ok (.string (bstr l)) (wr.drewN nq) := fun nq => conv_rba e1 (i4.drewN nq)
      have cv2 : ∀ nq, (convert 26 9 (.slice A1' l'.length e1')).run Try.prog (wr.drewN nq) = .ok (.string (bstr l')) (wr.drewN nq) := fun nq => conv_rba e1' (i4'.drewN nq)
      have q := bstr_eq i4.1 i4'.1
      have HL := Lib.hid hl
      have HL' := Lib.hid hl'
      clear hl hl' i4 i4' HM HM'
      by_cases e : l = l'
      ·have q' : ((bstr l).toList == (bstr l').toList) = true := by rw [q]; simp [e]
       have G2 : Hid (∀ (t : Nat) (l l' : List Nat), t < j + 1 → m[t]? = some l → m'[t]? = some l' → l = l') := Lib.hid (fun t x x' ht hx hx' => by
        by_cases y : t = j
        ·subst y
         rw [HL.out] at hx
         rw [HL'.out] at hx'
         cases hx; cases hx'; exact e
        ·exact GB.out t x x' (by omega) hx hx')
       clear e q GB BAD HL HL'
       generalize bstr l = sl at *
       generalize bstr l' = sl' at *
       have x2 := blk_cell SA.out 2 _ rfl
       have x3 := blk_cell SA.out 3 _ rfl
       have y2 := blk_cell SB.out 2 _ rfl
       have y3 := blk_cell SB.out 3 _ rfl
       have hz := blk_lt SB.out
       have hz0 := blk_lt SA.out
       go_wp2_with fail
       go_quiet (fail)
       go_wp2_with fail
       refine ⟨⟨j + 1, jj, by go_num, Lib.hid (below_drewN NN.out _), Lib.hid (blk_drewN SA.out _), Lib.hid (blk_drewN SB.out _), Lib.hid (HD.out.drewN _), Lib.hid (HD'.out.drewN _), G2⟩, by simp [intOf]; omega⟩
      ·have q' : ((bstr l).toList == (bstr l').toList) = false := by rw [q]; simp [e]
       have F : Hid (res = false) := Lib.hid (BAD.out (fun h => e (by have h1 := HL.out; have h9 : m = m' := (by injection h); rw [h9, HL'.out] at h1; cases h1; rfl)))
       clear e q GB BAD NX HL HL' HO HO'
       generalize bstr l = sl at *
       generalize bstr l' = sl' at *
       have x2 := blk_cell SA.out 2 _ rfl
       have x3 := blk_cell SA.out 3 _ rfl
       have y2 := blk_cell SB.out 2 _ rfl
       have y3 := blk_cell SB.out 3 _ rfl
       have hz := blk_lt SB.out
       have hz0 := blk_lt SA.out
       go_wp2_with fail
       go_quiet (fail)
       go_wp2_with fail
       go_ret
       exact ⟨ret_bool F.out.symm, below_drewN NN.out _⟩
  obtain ⟨o, ho⟩ := get_some hlt
  obtain ⟨o', ho'⟩ := get_some (show k < os'.length by rw [← C4.out]; exact hlt)
  have HO := Lib.hid ho
  have HO' := Lib.hid ho'
  clear ho ho'
  obtain ⟨b, off, rfl, hb, c0, c1, c2, c3, c4⟩ := HS.out.at_ HO.out
  obtain ⟨b', off', rfl, hb', c0', c1', c2', c3', c4'⟩ := HS'.out.at_ HO'.out
  have k2 : (k : Int) < (os.length : Int) := by omega
  have k3 : (k : Int) < (os'.length : Int) := by rw [← C4.out]; exact k2
  have kk : k + 1 ≤ os.length := hlt
  by_cases e : o = o'
  ·have q : eqO o o' = true := eqO_iff.2 e
   have G2 : Hid (∀ (j : Nat) (l l' : Ob), j < k + 1 → os[j]? = some l → os'[j]? = some l' → l = l') := Lib.hid (fun t x x' ht hx hx' => by
    by_cases y : t = k
    ·subst y
     rw [HO.out] at hx
     rw [HO'.out] at hx'
     cases hx; cases hx'; exact e
    ·exact GO.out t x x' (by omega) hx hx')
   clear e GO HO HO' NO YES
   have x2 := blk_cell SA.out 2 _ rfl
   have x3 := blk_cell SA.out 3 _ rfl
   have y2 := blk_cell SB.out 2 _ rfl
   have y3 := blk_cell SB.out 3 _ rfl
   have hz := blk_lt SB.out
   have hz0 := blk_lt SA.out
   go_wp2_with fail
   go_quiet (fail)
   go_wp2_with fail
   refine ⟨⟨k + 1, kk, by go_num, Lib.hid (below_drewN NN.out _), Lib.hid (blk_drewN SA.out _), Lib.hid (blk_drewN SB.out _), Lib.hid (HD.out.drewN _), Lib.hid (HD'.out.drewN _), Lib.hid (HS.out.drewN _), Lib.hid (HS'.out.drewN _), G2⟩, by simp [intOf]; omega⟩
  ·have q : eqO o o' = false := by cases x : eqO o o' with | false => rfl | true => exact absurd (eqO_iff.1 x) e
   have F : Hid (res = false) := Lib.hid (NO.out (fun h => e (by have h1 := HO.out; rw [h.2.2.2, HO'.out] at h1; cases h1; rfl)))
   clear e GO HO HO' NO YES
   have x2 := blk_cell SA.out 2 _ rfl
   have x3 := blk_cell SA.out 3 _ rfl
   have y2 := blk_cell SB.out 2 _ rfl
   have y3 := blk_cell SB.out 3 _ rfl
   have hz := blk_lt SB.out
   have hz0 := blk_lt SA.out
   go_wp2_with fail
   go_quiet (fail)
   go_wp2_with fail
   go_ret
   exact ⟨ret_bool F.out.symm, below_drewN NN.out _⟩
end Go.Proofs.Ytapehckcmmompaa
