/- Several texts in one. -/
import Derived.Test.YtapehckcmmompaaM09
namespace Go.Proofs.Ytapehckcmmompaa
open Go.ChangeShapes Go.WideShapes Go.ChangeAt Go.RowKit
set_option linter.unusedVariables false
set_option maxRecDepth 100000
attribute [local go_sem ↓] Go.wp_at_zero Go.wp_at_succ
theorem findL_nn {os : List Ob} {l : List UInt8} : findL os l = -1 ∨ 0 ≤ findL os l := by
 unfold findL
 cases os.findIdx? (fun o => nmE o l) with
 | none => exact Or.inl rfl
 | some i => exact Or.inr (by simp)
theorem dk_failed {st : Int} {d : Dk} (h : d.failed = true) (hb : dkB st d = true) : d.blocks = [] := by
 unfold dkB at hb
 rw [if_pos h] at hb
 simpa using hb
set_option maxHeartbeats 16000000 in
theorem oCheck_calls (d p : Int) (D A : Option Addr) (cd ca B : Nat) (ds : List Dk) (os : List Ob) (w : World) (hnd : ds.length ≤ cd) (hcd : cd ≤ 9223372036854775807) (hna : os.length ≤ ca) (hca : ca ≤ 9223372036854775807) (hd : RD B w D ds) (hs : RO B w A os) (hl : ∀ o ∈ os, Lh o.name) :
  Calls Try.prog 21 #[Tv d p (.slice D ds.length cd) (.slice A os.length ca)] w fun e w' => e = .returned (.int .i64 (chS d p ds os)) ∧ Below w.heap.size w w' := by
 have HD := Lib.hid hd
 have HS := Lib.hid hs
 have HL := Lib.hid hl
 have NN := Lib.hid (Below.refl w.heap.size w)
 clear hd hs hl
 have MANY := Lib.hid (fun h => chS_many (d := d) (p := p) (ds := ds) (os := os) h)
 have SIZE := Lib.hid (fun h h' hb => chS_size (d := d) (p := p) (ds := ds) (os := os) h h' hb)
 have IN := Lib.hid (fun h h' h1 h2 h3 h4 h5 => chS_in (d := d) (p := p) (ds := ds) (os := os) h h' h1 h2 h3 h4 h5)
 have ZC := Lib.hid (fun W => isSize_calls d p W)
 generalize chS d p ds os = res at *
 by_cases q0 : 12 < ds.length
 ·have e_q0 : decide ((12 : Int) < (ds.length : Int)) = true := decide_eq_true (by omega)
  have R : Hid (res = 4) := Lib.hid (MANY.out (Or.inl q0))
  clear MANY SIZE IN HL
  go_enter Try.func21, Try.ntmps21
  have HB : Hid (Below w.heap.size w (w.alloc (.cells #[.int .i64 d, .int .i64 p, .slice D ds.length cd, .slice A os.length ca] 25))) := Lib.hid (Bal (Below.refl _ _) _)
  have SB := Lib.hid (blk_new w (.cells #[.int .i64 d, .int .i64 p, .slice D ds.length cd, .slice A os.length ca] 25))
  have LT_SB : Hid (w.heap.size ≤ w.heap.size) := Lib.hid NN.out.size
  replace NN := Lib.hid (Bgo NN.out HB.out)
  replace HS := Lib.hid (HS.out.next HB.out)
  replace HD := Lib.hid (HD.out.next HB.out)
  clear HB
  go_wp2_with fail
  generalize w.alloc (.cells #[.int .i64 d, .int .i64 p, .slice D ds.length cd, .slice A os.length ca] 25) = W1 at *
  go_ret
  exact ⟨ret_int R.out.symm, NN.out⟩
 have e_q0 : decide ((12 : Int) < (ds.length : Int)) = false := decide_eq_false (by omega)
 by_cases q1 : 16 < os.length
 ·have e_q1 : decide ((16 : Int) < (os.length : Int)) = true := decide_eq_true (by omega)
  have R : Hid (res = 4) := Lib.hid (MANY.out (Or.inr q1))
  clear MANY SIZE IN HL
  go_enter Try.func21, Try.ntmps21
  have HB : Hid (Below w.heap.size w (w.alloc (.cells #[.int .i64 d, .int .i64 p, .slice D ds.length cd, .slice A os.length ca] 25))) := Lib.hid (Bal (Below.refl _ _) _)
  have SB := Lib.hid (blk_new w (.cells #[.int .i64 d, .int .i64 p, .slice D ds.length cd, .slice A os.length ca] 25))
  have LT_SB : Hid (w.heap.size ≤ w.heap.size) := Lib.hid NN.out.size
  replace NN := Lib.hid (Bgo NN.out HB.out)
  replace HS := Lib.hid (HS.out.next HB.out)
  replace HD := Lib.hid (HD.out.next HB.out)
  clear HB
  go_wp2_with fail
  generalize w.alloc (.cells #[.int .i64 d, .int .i64 p, .slice D ds.length cd, .slice A os.length ca] 25) = W2 at *
  go_ret
  exact ⟨ret_int R.out.symm, NN.out⟩
 have e_q1 : decide ((16 : Int) < (os.length : Int)) = false := decide_eq_false (by omega)
 by_cases q2 : szB d p = true
 rotate_left
 ·have q2' : szB d p = false := by simpa using q2
  have R : Hid (res = 8) := Lib.hid (SIZE.out (by omega) (by omega) (fun h => q2 (szB_iff.2 ⟨⟨h.1, h.2.1⟩, h.2.2.1, h.2.2.2.1⟩)))
  clear MANY SIZE IN HL q2
  rw [q2'] at ZC
  go_enter Try.func21, Try.ntmps21
  have HB : Hid (Below w.heap.size w (w.alloc (.cells #[.int .i64 d, .int .i64 p, .slice D ds.length cd, .slice A os.length ca] 25))) := Lib.hid (Bal (Below.refl _ _) _)
  have SB := Lib.hid (blk_new w (.cells #[.int .i64 d, .int .i64 p, .slice D ds.length cd, .slice A os.length ca] 25))
  have LT_SB : Hid (w.heap.size ≤ w.heap.size) := Lib.hid NN.out.size
  replace NN := Lib.hid (Bgo NN.out HB.out)
  replace HS := Lib.hid (HS.out.next HB.out)
  replace HD := Lib.hid (HD.out.next HB.out)
  clear HB
  go_wp2_with fail
  generalize w.alloc (.cells #[.int .i64 d, .int .i64 p, .slice D ds.length cd, .slice A os.length ca] 25) = W3 at *
  refine (ZC.out _).mono ?_
  rintro e wz ⟨rfl, hz⟩
  subst hz
  have c_SB_0 := blk_cell SB.out 0 _ rfl
  have c_SB_1 := blk_cell SB.out 1 _ rfl
  have c_SB_2 := blk_cell SB.out 2 _ rfl
  have c_SB_3 := blk_cell SB.out 3 _ rfl
  have l_SB := blk_lt SB.out
  go_wp2_with fail
  go_ret
  exact ⟨ret_int R.out.symm, NN.out⟩
 rw [q2] at ZC
 have q3 := szB_iff.1 q2
 clear q2
 obtain ⟨⟨d1, d8⟩, p0, p4⟩ := q3
 by_cases q6 : (ds.length : Int) ≠ d + p
 ·have e_q6 : ((ds.length : Int) != d + p) = true := by rw [bne_iff_ne]; exact q6
  have R : Hid (res = 8) := Lib.hid (SIZE.out (by omega) (by omega) (fun h => q6 h.2.2.2.2))
  clear MANY SIZE IN HL
  go_enter Try.func21, Try.ntmps21
  have HB : Hid (Below w.heap.size w (w.alloc (.cells #[.int .i64 d, .int .i64 p, .slice D ds.length cd, .slice A os.length ca] 25))) := Lib.hid (Bal (Below.refl _ _) _)
  have SB := Lib.hid (blk_new w (.cells #[.int .i64 d, .int .i64 p, .slice D ds.length cd, .slice A os.length ca] 25))
  have LT_SB : Hid (w.heap.size ≤ w.heap.size) := Lib.hid NN.out.size
  replace NN := Lib.hid (Bgo NN.out HB.out)
  replace HS := Lib.hid (HS.out.next HB.out)
  replace HD := Lib.hid (HD.out.next HB.out)
  clear HB
  go_wp2_with fail
  generalize w.alloc (.cells #[.int .i64 d, .int .i64 p, .slice D ds.length cd, .slice A os.length ca] 25) = W4 at *
  refine (ZC.out _).mono ?_
  rintro e wz ⟨rfl, hz⟩
  subst hz
  have c_SB_0 := blk_cell SB.out 0 _ rfl
  have c_SB_1 := blk_cell SB.out 1 _ rfl
  have c_SB_2 := blk_cell SB.out 2 _ rfl
  have c_SB_3 := blk_cell SB.out 3 _ rfl
  have l_SB := blk_lt SB.out
  go_wp2_with fail
  go_ret
  exact ⟨ret_int R.out.symm, NN.out⟩
 have e_q6 : ((ds.length : Int) != d + p) = false := by rw [bne_eq_false_iff_eq]; omega
 replace IN := Lib.hid (IN.out (by omega) (by omega) d1 d8 p0 p4 (by omega))
 clear MANY SIZE
 have DES := Lib.hid (desB_iff (d := d) (os := os))
 have BADO := Lib.hid (fun k o h hb => desB_bad (d := d) (os := os) (k := k) (o := o) h hb)
 generalize desB d os = de at *
 go_enter Try.func21, Try.ntmps21
 have HB : Hid (Below w.heap.size w (w.alloc (.cells #[.int .i64 d, .int .i64 p, .slice D ds.length cd, .slice A os.length ca] 25))) := Lib.hid (Bal (Below.refl _ _) _)
 have SB := Lib.hid (blk_new w (.cells #[.int .i64 d, .int .i64 p, .slice D ds.length cd, .slice A os.length ca] 25))
 have LT_SB : Hid (w.heap.size ≤ w.heap.size) := Lib.hid NN.out.size
 replace NN := Lib.hid (Bgo NN.out HB.out)
 replace HS := Lib.hid (HS.out.next HB.out)
 replace HD := Lib.hid (HD.out.next HB.out)
 clear HB
 go_wp2_with fail
 generalize w.alloc (.cells #[.int .i64 d, .int .i64 p, .slice D ds.length cd, .slice A os.length ca] 25) = W5 at *
 refine (ZC.out _).mono ?_
 rintro e wz ⟨rfl, hz⟩
 subst hz
 have c_SB_0 := blk_cell SB.out 0 _ rfl
 have c_SB_1 := blk_cell SB.out 1 _ rfl
 have c_SB_2 := blk_cell SB.out 2 _ rfl
 have c_SB_3 := blk_cell SB.out 3 _ rfl
 have l_SB := blk_lt SB.out
 go_wp2_with fail
 clear c_SB_0 c_SB_1 c_SB_2 c_SB_3 l_SB
 clear ZC
 go_loopw [3, 39] (fun n i wr => ∃ (k : Nat) (t : Int), k ≤ os.length ∧ i = .int .i64 k ∧ n = .int .i64 t ∧ 0 ≤ t ∧ t ≤ 38 * k ∧ Hid (t = strN (os.take k)) ∧ Hid (∀ (j : Nat) (o : Ob), j < k → os[j]? = some o → oneO d os j o = true) ∧ Hid (Below w.heap.size w wr) ∧ Hid (RO B wr A os) ∧ Hid (RD B wr D ds) ∧ Hid (wr.heap[w.heap.size]? = some (.cells #[.int .i64 d, .int .i64 p, .slice D ds.length cd, .slice A os.length ca] 25))) (fun _ i _ => os.length - (intOf i).toNat)
 case atStart => exact ⟨0, 0, by omega, rfl, rfl, by omega, by omega, Lib.hid (by simp [strN]), Lib.hid (fun j o h => by omega), NN, HS, HD, SB⟩
 case round =>
  clear NN HS HD SB
  obtain ⟨k, t, hk, rfl, rfl, t1, t2, TS, GD, NN, HS, HD, SB⟩ := hrel
  by_cases hlt : k < os.length
  rotate_left
  ·obtain rfl : k = os.length := by omega
   have DE : de = true := DES.out.2 (fun j o h => GD.out j o (get_lt h) h)
   rw [List.take_length] at TS
   clear GD DES BADO HL HS
   subst DE
   rw [← TS.out] at IN
   clear TS
   have c_SB_0 := blk_cell SB.out 0 _ rfl
   have c_SB_1 := blk_cell SB.out 1 _ rfl
   have c_SB_2 := blk_cell SB.out 2 _ rfl
   have c_SB_3 := blk_cell SB.out 3 _ rfl
   have l_SB := blk_lt SB.out
   go_wp2_with fail
   clear c_SB_0 c_SB_1 c_SB_2 c_SB_3 l_SB
   clear hk
   go_loopw [4, 68] (fun f i wr => ∃ (k u : Nat), k ≤ ds.length ∧ i = .int .i64 k ∧ f = .int .i64 u ∧ u ≤ k ∧ Hid (u = faN (ds.take k)) ∧ Hid (∀ (j : Nat) (o : Dk), j < k → ds[j]? = some o → dkB t o = true) ∧ Hid (Below w.heap.size w wr) ∧ Hid (RD B wr D ds) ∧ Hid (wr.heap[w.heap.size]? = some (.cells #[.int .i64 d, .int .i64 p, .slice D ds.length cd, .slice A os.length ca] 25))) (fun _ i _ => ds.length - (intOf i).toNat)
   case atStart => exact ⟨0, 0, by omega, rfl, rfl, by omega, Lib.hid (by simp [faN]), Lib.hid (fun j o h => by omega), NN, HD, SB⟩
   case round =>
    clear NN HD SB
    skip
    obtain ⟨k, u, hk, rfl, rfl, u1, US, GD, NN, HD, SB⟩ := hrel
    by_cases hlt : k < ds.length
    rotate_left
    ·obtain rfl : k = ds.length := by omega
     rw [List.take_length] at US
     have ALL : Hid (∀ k ∈ ds, dkB t k = true) := Lib.hid (fun o ho => by obtain ⟨j, hj⟩ := List.mem_iff_getElem?.1 ho; exact GD.out j o (get_lt hj) hj)
     rw [← US.out] at IN
     clear GD US
     by_cases q7 : 0 < t
     rotate_left
     ·have e7 : decide ((0 : Int) < t) = false := decide_eq_false (by omega)
      have R : Hid (res = 0) := Lib.hid (by rw [IN.out]; exact if_pos ⟨by simp, fun h => absurd h q7, ALL.out⟩)
      clear IN ALL
      have c_SB_0 := blk_cell SB.out 0 _ rfl
      have c_SB_1 := blk_cell SB.out 1 _ rfl
      have c_SB_2 := blk_cell SB.out 2 _ rfl
      have c_SB_3 := blk_cell SB.out 3 _ rfl
      have l_SB := blk_lt SB.out
      go_wp2_with fail
      go_ret
      exact ⟨ret_int R.out.symm, NN.out⟩
     have e7 : decide ((0 : Int) < t) = true := decide_eq_true q7
     by_cases q8 : u = ds.length
     rotate_left
     ·have e8 : ((u : Int) == (ds.length : Int)) = false := by rw [beq_eq_false_iff_ne]; omega
      have R : Hid (res = 0) := Lib.hid (by rw [IN.out]; exact if_pos ⟨by simp, fun _ => q8, ALL.out⟩)
      clear IN ALL
      have c_SB_0 := blk_cell SB.out 0 _ rfl
      have c_SB_1 := blk_cell SB.out 1 _ rfl
      have c_SB_2 := blk_cell SB.out 2 _ rfl
      have c_SB_3 := blk_cell SB.out 3 _ rfl
      have l_SB := blk_lt SB.out
      go_wp2_with fail
      go_ret
      exact ⟨ret_int R.out.symm, NN.out⟩
     have e8 : ((u : Int) == (ds.length : Int)) = true := by rw [beq_iff_eq, q8]
     have R : Hid (res = 8) := Lib.hid (by rw [IN.out]; exact if_neg (fun h => h.2.1 q7 q8))
     clear IN ALL
     have c_SB_0 := blk_cell SB.out 0 _ rfl
     have c_SB_1 := blk_cell SB.out 1 _ rfl
     have c_SB_2 := blk_cell SB.out 2 _ rfl
     have c_SB_3 := blk_cell SB.out 3 _ rfl
     have l_SB := blk_lt SB.out
     go_wp2_with fail
     go_ret
     exact ⟨ret_int R.out.symm, NN.out⟩
    obtain ⟨o, ho⟩ := get_some hlt
    obtain ⟨b, off, Ai, ci, hA, hb9, c0, c1, h2, h3, HM⟩ := HD.out.at_ ho
    have HO := Lib.hid ho
    have F2 := Lib.hid (faN_take ho)
    have BADK : Hid (dkB t o = false → res = 8) := Lib.hid (fun hb => by rw [IN.out]; exact if_neg (fun h => by have := h.2.2 o (List.mem_of_getElem? HO.out); rw [hb] at this; cases this))
    obtain ⟨f, m⟩ := o
    simp only at c0 c1 h2 F2
    replace HM : Hid (RMA B wr Ai m) := Lib.hid HM
    have kk : k + 1 ≤ ds.length := hlt
    clear ho
    have NEXT : Hid (dkB t ⟨f, m⟩ = true → ∀ (j : Nat) (o : Dk), j < k + 1 → ds[j]? = some o → dkB t o = true) := Lib.hid (fun hb j o hj h => by
     by_cases x : j = k
     ·subst x
      rw [HO.out] at h
      cases h; exact hb
     ·exact GD.out j o (by omega) h)
    have IDC := Lib.hid (fun W h => isDisk_calls ⟨f, m⟩ t Ai ci B W h2 h3 h)
    skip
    generalize dkB t ⟨f, m⟩ = ok at *
    clear GD HO
    subst hA
    have c_SB_0 := blk_cell SB.out 0 _ rfl
    have c_SB_1 := blk_cell SB.out 1 _ rfl
    have c_SB_2 := blk_cell SB.out 2 _ rfl
    have c_SB_3 := blk_cell SB.out 3 _ rfl
    have l_SB := blk_lt SB.out
    go_wp2_with fail
    clear c0 c1 hb9 c_SB_0 c_SB_1 c_SB_2 c_SB_3 l_SB
    have HB : Hid (Below wr.heap.size wr (wr.alloc (.cells #[.bool f, .slice Ai m.length ci] 46))) := Lib.hid (Bal (Below.refl _ _) _)
    have DB := Lib.hid (blk_new wr (.cells #[.bool f, .slice Ai m.length ci] 46))
    have LT_DB : Hid (w.heap.size < wr.heap.size ∧ w.heap.size ≤ wr.heap.size) := Lib.hid ⟨blk_lt SB.out, NN.out.size⟩
    replace NN := Lib.hid (Bgo NN.out HB.out)
    replace HD := Lib.hid (HD.out.next HB.out)
    replace HM := Lib.hid (HM.out.next HB.out)
    replace SB := Lib.hid (blk_next HB.out SB.out)
    clear HB
    generalize wr.alloc (.cells #[.bool f, .slice Ai m.length ci] 46) = W6 at *
    generalize wr.heap.size = g6 at *
    have c_DB_0 := blk_cell DB.out 0 _ rfl
    have c_DB_1 := blk_cell DB.out 1 _ rfl
    have l_DB := blk_lt DB.out
    refine (IDC.out _ HM.out).mono ?_
    rintro e w7 ⟨rfl, hb⟩
    clear c_DB_0 c_DB_1 l_DB
    replace NN := Lib.hid (Bgo NN.out hb)
    replace HD := Lib.hid (HD.out.next hb)
    replace HM := Lib.hid (HM.out.next hb)
    replace SB := Lib.hid (blk_next hb SB.out)
    replace DB := Lib.hid (blk_next hb DB.out)
    clear hb
    cases ok
    ·have R : Hid (res = 8) := Lib.hid (BADK.out rfl)
     clear BADK NEXT IN F2
     go_wp2_with fail
     go_ret
     exact ⟨ret_int R.out.symm, NN.out⟩
    have G2 := Lib.hid (NEXT.out rfl)
    clear NEXT BADK
    cases f
    ·have U2 : Hid (u = faN (ds.take (k + 1))) := Lib.hid (by rw [F2.out, US.out]; rfl)
     clear F2 US
     have c_DB_0 := blk_cell DB.out 0 _ rfl
     have c_DB_1 := blk_cell DB.out 1 _ rfl
     have l_DB := blk_lt DB.out
     have c_SB_0 := blk_cell SB.out 0 _ rfl
     have c_SB_1 := blk_cell SB.out 1 _ rfl
     have c_SB_2 := blk_cell SB.out 2 _ rfl
     have c_SB_3 := blk_cell SB.out 3 _ rfl
     have l_SB := blk_lt SB.out
     go_wp2_with fail
     clear c_DB_0 c_DB_1 l_DB c_SB_0 c_SB_1 c_SB_2 c_SB_3 l_SB
     go_roundw
     case rel => exact ⟨k + 1, u, kk, by go_num, rfl, by omega, U2, G2, NN, HD, SB⟩
     case measure => simp [intOf]; omega
    ·have U2 : Hid (u + 1 = faN (ds.take (k + 1))) := Lib.hid (by rw [F2.out, US.out]; rfl)
     clear F2 US
     have c_DB_0 := blk_cell DB.out 0 _ rfl
     have c_DB_1 := blk_cell DB.out 1 _ rfl
     have l_DB := blk_lt DB.out
     have c_SB_0 := blk_cell SB.out 0 _ rfl
     have c_SB_1 := blk_cell SB.out 1 _ rfl
     have c_SB_2 := blk_cell SB.out 2 _ rfl
     have c_SB_3 := blk_cell SB.out 3 _ rfl
     have l_SB := blk_lt SB.out
     go_wp2_with fail
     clear c_DB_0 c_DB_1 l_DB c_SB_0 c_SB_1 c_SB_2 c_SB_3 l_SB
     go_roundw
     case rel => exact ⟨k + 1, u + 1, kk, by go_num, by go_num, by omega, U2, G2, NN, HD, SB⟩
     case measure => simp [intOf]; omega
  obtain ⟨o, ho⟩ := get_some hlt
  have HLO := HL.out o (List.mem_of_getElem? ho)
  obtain ⟨b, off, hA, hb9, c0, c1, c2, c3, c4⟩ := HS.out.at_ ho
  have HO := Lib.hid ho
  have ONE : Hid (oneO d os k o = (objB d t o && (findL (os.take k) o.name.toList == -1))) := Lib.hid (by unfold oneO; rw [TS.out])
  have TKL : (os.take k).length = k := by rw [List.length_take]; omega
  have OC := Lib.hid (fun W => isObject_calls o d t W d1 d8 HLO)
  have FC : Hid (∀ W, RO B W A (os.take k) → Calls Try.prog 44 #[.slice A k ca, .string o.name] W fun e w' => e = .returned (.int .i64 (findL (os.take k) o.name.toList)) ∧ Below W.heap.size W w') := Lib.hid (fun W h => by have := oFind_calls A ca B (os.take k) o.name W (by omega) hca h; rw [TKL] at this; exact this)
  have FN := findL_nn (os := os.take k) (l := o.name.toList)
  have MB := Lib.hid (fun h => obj_many d1 d8 (show objB d t o = true from h))
  have BADK : Hid (oneO d os k o = false → res = 8) := Lib.hid (fun hb => by rw [IN.out]; exact if_neg (fun h => by have := h.1; rw [BADO.out k o HO.out hb] at this; cases this))
  have TN := Lib.hid (strN_take ho)
  obtain ⟨nm, sz, f, m, g⟩ := o
  simp only at HLO c0 c1 c2 c3 c4 ONE FC FN MB TN
  have NEXT : Hid (oneO d os k ⟨nm, sz, f, m, g⟩ = true → ∀ (j : Nat) (o : Ob), j < k + 1 → os[j]? = some o → oneO d os j o = true) := Lib.hid (fun hb j o hj h => by
   by_cases x : j = k
   ·subst x
    rw [HO.out] at h
    cases h; exact hb
   ·exact GD.out j o (by omega) h)
  have kk : k + 1 ≤ os.length := hlt
  have TKH := Lib.hid (fun W (h : RO B W A os) => h.take_ k)
  clear HLO ho GD HO TKL
  generalize findL (os.take k) nm.toList = ix at *
  generalize objB d t ⟨nm, sz, f, m, g⟩ = ob at *
  generalize oneO d os k ⟨nm, sz, f, m, g⟩ = on at *
  subst hA
  have c_SB_0 := blk_cell SB.out 0 _ rfl
  have c_SB_1 := blk_cell SB.out 1 _ rfl
  have c_SB_2 := blk_cell SB.out 2 _ rfl
  have c_SB_3 := blk_cell SB.out 3 _ rfl
  have l_SB := blk_lt SB.out
  go_wp2_with fail
  clear c0 c1 c2 c3 c4 hb9 c_SB_0 c_SB_1 c_SB_2 c_SB_3 l_SB
  have HB : Hid (Below wr.heap.size wr (wr.alloc (.cells #[.string nm, .int .i64 sz, .int .i64 f, .int .i64 m, .int .i64 g] 50))) := Lib.hid (Bal (Below.refl _ _) _)
  have OB := Lib.hid (blk_new wr (.cells #[.string nm, .int .i64 sz, .int .i64 f, .int .i64 m, .int .i64 g] 50))
  have LT_OB : Hid (w.heap.size < wr.heap.size ∧ w.heap.size ≤ wr.heap.size) := Lib.hid ⟨blk_lt SB.out, NN.out.size⟩
  replace NN := Lib.hid (Bgo NN.out HB.out)
  replace HS := Lib.hid (HS.out.next HB.out)
  replace HD := Lib.hid (HD.out.next HB.out)
  replace SB := Lib.hid (blk_next HB.out SB.out)
  clear HB
  generalize wr.alloc (.cells #[.string nm, .int .i64 sz, .int .i64 f, .int .i64 m, .int .i64 g] 50) = W8 at *
  generalize wr.heap.size = g8 at *
  cases ob
  ·have R : Hid (res = 8) := Lib.hid (BADK.out (by rw [ONE.out]; simp))
   clear BADK NEXT IN ONE TS TN MB
   refine region_I (S := SK [(0, g8, .cells #[.string nm, .int .i64 sz, .int .i64 f, .int .i64 m, .int .i64 g] 50), (2, w.heap.size, .cells #[.int .i64 d, .int .i64 p, .slice D ds.length cd, .slice (some ⟨b, off, none⟩) os.length ca] 25)]) (by kernel_rfl) ?_
   have HAL := Lib.hid (fun (k : Nat) => (show SK [(0, g8, .cells #[.string nm, .int .i64 sz, .int .i64 f, .int .i64 m, .int .i64 g] 50), (2, w.heap.size, .cells #[.int .i64 d, .int .i64 p, .slice D ds.length cd, .slice (some ⟨b, off, none⟩) os.length ca] 25)] k W8.drew from fun p hp e => by
    simp only [List.mem_cons, List.not_mem_nil, or_false] at hp
    rcases hp with rfl | rfl
    ·exact OB.out
    ·exact SB.out))
   have HDRW := Lib.hid (Below.drew (Below.refl W8.heap.size W8))
   replace NN := Lib.hid (Bgo NN.out HDRW.out)
   replace HS := Lib.hid (HS.out.next HDRW.out)
   replace HD := Lib.hid (HD.out.next HDRW.out)
   replace SB := Lib.hid (blk_next HDRW.out SB.out)
   replace OB := Lib.hid (blk_next HDRW.out OB.out)
   clear HDRW
   refine tJ 0 (.agg #[.string nm, .int .i64 sz, .int .i64 f, .int .i64 m, .int .i64 g]) (some 44) rfl (HAL.out 0) (Or.inl ⟨by rfl, ?_⟩) ?_
   ·intro X hX
    have hh := hX (0, g8, .cells #[.string nm, .int .i64 sz, .int .i64 f, .int .i64 m, .int .i64 g] 50) (List.Mem.head _) rfl
    have hh0 := blk_cell hh 0 _ rfl
    have hh1 := blk_cell hh 1 _ rfl
    have hh2 := blk_cell hh 2 _ rfl
    have hh3 := blk_cell hh 3 _ rfl
    have hh4 := blk_cell hh 4 _ rfl
    have hhl := blk_lt hh
    clear hh
    clear hX
    go_simp
   try simp only [Act.put, zA, zB, zC]
   refine tJ 1 (.pointer (some ⟨w.heap.size, 0, none⟩)) (some 45) rfl (SK.drop (by simp)) (Or.inl ⟨by rfl, ?_⟩) ?_
   ·intro X hX
    clear hX
    go_simp
   try simp only [Act.put, zA, zB, zC]
   refine tJ 2 (.int .i64 d) (some 46) rfl (HAL.out 2) (Or.inl ⟨by rfl, ?_⟩) ?_
   ·intro X hX
    have hh := hX (2, w.heap.size, .cells #[.int .i64 d, .int .i64 p, .slice D ds.length cd, .slice (some ⟨b, off, none⟩) os.length ca] 25) (List.Mem.tail _ (List.Mem.head _)) rfl
    have hh0 := blk_cell hh 0 _ rfl
    have hhl := blk_lt hh
    clear hh
    clear hX
    go_simp
   try simp only [Act.put, zA, zB, zC]
   refine tJ 3 (.int .i64 t) (some 47) rfl (SK.drop (by simp)) (Or.inl ⟨by rfl, ?_⟩) ?_
   ·intro X hX
    clear hX
    go_simp
   try simp only [Act.put, zA, zB, zC]
   refine only_I 4 (by kernel_rfl) rfl (fun K' hK' => ?_)
   go_simp
   go_at_call 54
   refine (OC.out _).mono ?_
   rintro e x9 ⟨rfl, hb⟩
   replace NN := Lib.hid (Bgo NN.out hb)
   replace HS := Lib.hid (HS.out.next hb)
   replace HD := Lib.hid (HD.out.next hb)
   replace SB := Lib.hid (blk_next hb SB.out)
   replace OB := Lib.hid (blk_next hb OB.out)
   go_simp
   refine hK'.out _ _ (fun k _ hS => hS.next hb) ?_
   clear hK' K'
   try simp only [Act.put, zA, zB, zC]
   replace HAL := Lib.hid (fun k => (HAL.out k).next hb)
   refine tJ 5 (.bool true) (some 49) rfl (SK.drop (by simp)) (Or.inl ⟨by rfl, ?_⟩) ?_
   ·intro X hX
    clear hX
    go_simp
   try simp only [Act.put, zA, zB, zC]
   refine tJ 6 (.bool true) (some 50) rfl (SK.drop (by simp)) (Or.inl ⟨by rfl, ?_⟩) ?_
   ·intro X hX
    clear hX
    go_simp
   try simp only [Act.put, zA, zB, zC]
   refine tJ 7 undef (some 51) rfl (HAL.out 7) (Or.inr ⟨by rfl, rfl⟩) ?_
   try simp only [Act.put, zA, zB, zC]
   refine tJ 8 undef (some 52) rfl (HAL.out 8) (Or.inr ⟨by rfl, rfl⟩) ?_
   try simp only [Act.put, zA, zB, zC]
   refine tJ 9 undef (some 53) rfl (HAL.out 9) (Or.inr ⟨by rfl, rfl⟩) ?_
   try simp only [Act.put, zA, zB, zC]
   refine tJ 10 undef (some 54) rfl (HAL.out 10) (Or.inr ⟨by rfl, rfl⟩) ?_
   try simp only [Act.put, zA, zB, zC]
   refine tJ 11 undef (some 55) rfl (HAL.out 11) (Or.inr ⟨by rfl, rfl⟩) ?_
   try simp only [Act.put, zA, zB, zC]
   refine tJ 12 undef (some 56) rfl (HAL.out 12) (Or.inr ⟨by rfl, rfl⟩) ?_
   try simp only [Act.put, zA, zB, zC]
   refine tJ 13 undef (some 57) rfl (HAL.out 13) (Or.inr ⟨by rfl, rfl⟩) ?_
   try simp only [Act.put, zA, zB, zC]
   refine tJ 14 undef (some 58) rfl (HAL.out 14) (Or.inr ⟨by rfl, rfl⟩) ?_
   try simp only [Act.put, zA, zB, zC]
   refine tJ 15 (.bool true) (some 59) rfl (SK.drop (by simp)) (Or.inl ⟨by rfl, ?_⟩) ?_
   ·intro X hX
    clear hX
    go_simp
   try simp only [Act.put, zA, zB, zC]
   clear HAL
   refine done_I (by kernel_rfl) ?_ _
   go_wp2_with fail
   go_ret
   exact ⟨ret_int R.out.symm, NN.out⟩
  by_cases q9 : ix = -1
  rotate_left
  ·have e9 : decide ((0 : Int) ≤ ix) = true := decide_eq_true (by omega)
   have R : Hid (res = 8) := Lib.hid (BADK.out (by rw [ONE.out, beq_eq_false_iff_ne.2 q9]; simp))
   clear BADK NEXT IN ONE TS TN MB
   refine region_I (S := SK [(0, g8, .cells #[.string nm, .int .i64 sz, .int .i64 f, .int .i64 m, .int .i64 g] 50), (2, w.heap.size, .cells #[.int .i64 d, .int .i64 p, .slice D ds.length cd, .slice (some ⟨b, off, none⟩) os.length ca] 25), (8, w.heap.size, .cells #[.int .i64 d, .int .i64 p, .slice D ds.length cd, .slice (some ⟨b, off, none⟩) os.length ca] 25), (12, g8, .cells #[.string nm, .int .i64 sz, .int .i64 f, .int .i64 m, .int .i64 g] 50)]) (by kernel_rfl) ?_
   have HAL := Lib.hid (fun (k : Nat) => (show SK [(0, g8, .cells #[.string nm, .int .i64 sz, .int .i64 f, .int .i64 m, .int .i64 g] 50), (2, w.heap.size, .cells #[.int .i64 d, .int .i64 p, .slice D ds.length cd, .slice (some ⟨b, off, none⟩) os.length ca] 25), (8, w.heap.size, .cells #[.int .i64 d, .int .i64 p, .slice D ds.length cd, .slice (some ⟨b, off, none⟩) os.length ca] 25), (12, g8, .cells #[.string nm, .int .i64 sz, .int .i64 f, .int .i64 m, .int .i64 g] 50)] k W8.drew from fun p hp e => by
    simp only [List.mem_cons, List.not_mem_nil, or_false] at hp
    rcases hp with rfl | rfl | rfl | rfl
    ·exact OB.out
    ·exact SB.out
    ·exact SB.out
    ·exact OB.out))
   have HDRW := Lib.hid (Below.drew (Below.refl W8.heap.size W8))
   replace NN := Lib.hid (Bgo NN.out HDRW.out)
   replace HS := Lib.hid (HS.out.next HDRW.out)
   replace HD := Lib.hid (HD.out.next HDRW.out)
   replace SB := Lib.hid (blk_next HDRW.out SB.out)
   replace OB := Lib.hid (blk_next HDRW.out OB.out)
   clear HDRW
   refine tJ 0 (.agg #[.string nm, .int .i64 sz, .int .i64 f, .int .i64 m, .int .i64 g]) (some 44) rfl (HAL.out 0) (Or.inl ⟨by rfl, ?_⟩) ?_
   ·intro X hX
    have hh := hX (0, g8, .cells #[.string nm, .int .i64 sz, .int .i64 f, .int .i64 m, .int .i64 g] 50) (List.Mem.head _) rfl
    have hh0 := blk_cell hh 0 _ rfl
    have hh1 := blk_cell hh 1 _ rfl
    have hh2 := blk_cell hh 2 _ rfl
    have hh3 := blk_cell hh 3 _ rfl
    have hh4 := blk_cell hh 4 _ rfl
    have hhl := blk_lt hh
    clear hh
    clear hX
    go_simp
   try simp only [Act.put, zA, zB, zC]
   refine tJ 1 (.pointer (some ⟨w.heap.size, 0, none⟩)) (some 45) rfl (SK.drop (by simp)) (Or.inl ⟨by rfl, ?_⟩) ?_
   ·intro X hX
    clear hX
    go_simp
   try simp only [Act.put, zA, zB, zC]
   refine tJ 2 (.int .i64 d) (some 46) rfl (HAL.out 2) (Or.inl ⟨by rfl, ?_⟩) ?_
   ·intro X hX
    have hh := hX (2, w.heap.size, .cells #[.int .i64 d, .int .i64 p, .slice D ds.length cd, .slice (some ⟨b, off, none⟩) os.length ca] 25) (List.Mem.tail _ (List.Mem.head _)) rfl
    have hh0 := blk_cell hh 0 _ rfl
    have hhl := blk_lt hh
    clear hh
    clear hX
    go_simp
   try simp only [Act.put, zA, zB, zC]
   refine tJ 3 (.int .i64 t) (some 47) rfl (SK.drop (by simp)) (Or.inl ⟨by rfl, ?_⟩) ?_
   ·intro X hX
    clear hX
    go_simp
   try simp only [Act.put, zA, zB, zC]
   refine only_I 4 (by kernel_rfl) rfl (fun K' hK' => ?_)
   go_simp
   go_at_call 54
   refine (OC.out _).mono ?_
   rintro e x10 ⟨rfl, hb⟩
   replace NN := Lib.hid (Bgo NN.out hb)
   replace HS := Lib.hid (HS.out.next hb)
   replace HD := Lib.hid (HD.out.next hb)
   replace SB := Lib.hid (blk_next hb SB.out)
   replace OB := Lib.hid (blk_next hb OB.out)
   go_simp
   refine hK'.out _ _ (fun k _ hS => hS.next hb) ?_
   clear hK' K'
   try simp only [Act.put, zA, zB, zC]
   replace HAL := Lib.hid (fun k => (HAL.out k).next hb)
   refine tJ 5 (.bool false) (some 49) rfl (SK.drop (by simp)) (Or.inl ⟨by rfl, ?_⟩) ?_
   ·intro X hX
    clear hX
    go_simp
   try simp only [Act.put, zA, zB, zC]
   refine tJ 6 (.bool false) (some 50) rfl (SK.drop (by simp)) (Or.inl ⟨by rfl, ?_⟩) ?_
   ·intro X hX
    clear hX
    go_simp
   try simp only [Act.put, zA, zB, zC]
   refine tJ 7 (.pointer (some ⟨w.heap.size, 3, none⟩)) (some 51) rfl (SK.drop (by simp)) (Or.inl ⟨by rfl, ?_⟩) ?_
   ·intro X hX
    clear hX
    go_simp
   try simp only [Act.put, zA, zB, zC]
   refine tJ 8 (.slice (some ⟨b, off, none⟩) os.length ca) (some 52) rfl (HAL.out 8) (Or.inl ⟨by rfl, ?_⟩) ?_
   ·intro X hX
    have hh := hX (8, w.heap.size, .cells #[.int .i64 d, .int .i64 p, .slice D ds.length cd, .slice (some ⟨b, off, none⟩) os.length ca] 25) (List.Mem.tail _ (List.Mem.tail _ (List.Mem.head _))) rfl
    have hh3 := blk_cell hh 3 _ rfl
    have hhl := blk_lt hh
    clear hh
    clear hX
    go_simp
   try simp only [Act.put, zA, zB, zC]
   refine tJ 9 (.int .i64 (k : Int)) (some 53) rfl (SK.drop (by simp)) (Or.inl ⟨by rfl, ?_⟩) ?_
   ·intro X hX
    clear hX
    go_simp
   try simp only [Act.put, zA, zB, zC]
   refine tJ 10 (.slice (some ⟨b, off, none⟩) k ca) (some 54) rfl (SK.drop (by simp)) (Or.inl ⟨by rfl, ?_⟩) ?_
   ·intro X hX
    clear hX
    go_simp
    all_goals (intro hbad; omega)
   try simp only [Act.put, zA, zB, zC]
   refine tJ 11 (.pointer (some ⟨g8, 0, none⟩)) (some 55) rfl (SK.drop (by simp)) (Or.inl ⟨by rfl, ?_⟩) ?_
   ·intro X hX
    clear hX
    go_simp
   try simp only [Act.put, zA, zB, zC]
   refine tJ 12 (.string nm) (some 56) rfl (HAL.out 12) (Or.inl ⟨by rfl, ?_⟩) ?_
   ·intro X hX
    have hh := hX (12, g8, .cells #[.string nm, .int .i64 sz, .int .i64 f, .int .i64 m, .int .i64 g] 50) (List.Mem.tail _ (List.Mem.tail _ (List.Mem.tail _ (List.Mem.head _)))) rfl
    have hh0 := blk_cell hh 0 _ rfl
    have hhl := blk_lt hh
    clear hh
    clear hX
    go_simp
   try simp only [Act.put, zA, zB, zC]
   refine only_I 13 (by kernel_rfl) rfl (fun K' hK' => ?_)
   go_simp
   go_at_call 44
   refine (FC.out _ (TKH.out _ HS.out)).mono ?_
   rintro e x11 ⟨rfl, hb⟩
   replace NN := Lib.hid (Bgo NN.out hb)
   replace HS := Lib.hid (HS.out.next hb)
   replace HD := Lib.hid (HD.out.next hb)
   replace SB := Lib.hid (blk_next hb SB.out)
   replace OB := Lib.hid (blk_next hb OB.out)
   go_simp
   refine hK'.out _ _ (fun k _ hS => hS.next hb) ?_
   clear hK' K'
   try simp only [Act.put, zA, zB, zC]
   replace HAL := Lib.hid (fun k => (HAL.out k).next hb)
   refine tJ 14 (.bool true) (some 58) rfl (SK.drop (by simp)) (Or.inl ⟨by rfl, ?_⟩) ?_
   ·intro X hX
    clear hX
    go_simp
   try simp only [Act.put, zA, zB, zC]
   refine tJ 15 (.bool true) (some 59) rfl (SK.drop (by simp)) (Or.inl ⟨by rfl, ?_⟩) ?_
   ·intro X hX
    clear hX
    go_simp
   try simp only [Act.put, zA, zB, zC]
   clear HAL
   refine done_I (by kernel_rfl) ?_ _
   go_wp2_with fail
   go_ret
   exact ⟨ret_int R.out.symm, NN.out⟩
  have e9 : decide ((0 : Int) ≤ ix) = false := decide_eq_false (by omega)
  have ON1 : on = true := by rw [ONE.out, q9]; rfl
  have G2 := Lib.hid (NEXT.out ON1)
  have MB2 := MB.out rfl
  obtain ⟨mb1, mb2⟩ := MB2
  have T2 : Hid (t + m = strN (os.take (k + 1))) := Lib.hid (by rw [TN.out, TS.out])
  have HQ9 := Lib.hid q9
  clear q9 ON1 NEXT BADK ONE MB TN TS
  refine region_I (S := SK [(0, g8, .cells #[.string nm, .int .i64 sz, .int .i64 f, .int .i64 m, .int .i64 g] 50), (2, w.heap.size, .cells #[.int .i64 d, .int .i64 p, .slice D ds.length cd, .slice (some ⟨b, off, none⟩) os.length ca] 25), (8, w.heap.size, .cells #[.int .i64 d, .int .i64 p, .slice D ds.length cd, .slice (some ⟨b, off, none⟩) os.length ca] 25), (12, g8, .cells #[.string nm, .int .i64 sz, .int .i64 f, .int .i64 m, .int .i64 g] 50)]) (by kernel_rfl) ?_
  have HAL := Lib.hid (fun (k : Nat) => (show SK [(0, g8, .cells #[.string nm, .int .i64 sz, .int .i64 f, .int .i64 m, .int .i64 g] 50), (2, w.heap.size, .cells #[.int .i64 d, .int .i64 p, .slice D ds.length cd, .slice (some ⟨b, off, none⟩) os.length ca] 25), (8, w.heap.size, .cells #[.int .i64 d, .int .i64 p, .slice D ds.length cd, .slice (some ⟨b, off, none⟩) os.length ca] 25), (12, g8, .cells #[.string nm, .int .i64 sz, .int .i64 f, .int .i64 m, .int .i64 g] 50)] k W8.drew from fun p hp e => by
   simp only [List.mem_cons, List.not_mem_nil, or_false] at hp
   rcases hp with rfl | rfl | rfl | rfl
   ·exact OB.out
   ·exact SB.out
   ·exact SB.out
   ·exact OB.out))
  have HDRW := Lib.hid (Below.drew (Below.refl W8.heap.size W8))
  replace NN := Lib.hid (Bgo NN.out HDRW.out)
  replace HS := Lib.hid (HS.out.next HDRW.out)
  replace HD := Lib.hid (HD.out.next HDRW.out)
  replace SB := Lib.hid (blk_next HDRW.out SB.out)
  replace OB := Lib.hid (blk_next HDRW.out OB.out)
  clear HDRW
  refine tJ 0 (.agg #[.string nm, .int .i64 sz, .int .i64 f, .int .i64 m, .int .i64 g]) (some 44) rfl (HAL.out 0) (Or.inl ⟨by rfl, ?_⟩) ?_
  ·intro X hX
   have hh := hX (0, g8, .cells #[.string nm, .int .i64 sz, .int .i64 f, .int .i64 m, .int .i64 g] 50) (List.Mem.head _) rfl
   have hh0 := blk_cell hh 0 _ rfl
   have hh1 := blk_cell hh 1 _ rfl
   have hh2 := blk_cell hh 2 _ rfl
   have hh3 := blk_cell hh 3 _ rfl
   have hh4 := blk_cell hh 4 _ rfl
   have hhl := blk_lt hh
   clear hh
   clear hX
   go_simp
  try simp only [Act.put, zA, zB, zC]
  refine tJ 1 (.pointer (some ⟨w.heap.size, 0, none⟩)) (some 45) rfl (SK.drop (by simp)) (Or.inl ⟨by rfl, ?_⟩) ?_
  ·intro X hX
   clear hX
   go_simp
  try simp only [Act.put, zA, zB, zC]
  refine tJ 2 (.int .i64 d) (some 46) rfl (HAL.out 2) (Or.inl ⟨by rfl, ?_⟩) ?_
  ·intro X hX
   have hh := hX (2, w.heap.size, .cells #[.int .i64 d, .int .i64 p, .slice D ds.length cd, .slice (some ⟨b, off, none⟩) os.length ca] 25) (List.Mem.tail _ (List.Mem.head _)) rfl
   have hh0 := blk_cell hh 0 _ rfl
   have hhl := blk_lt hh
   clear hh
   clear hX
   go_simp
  try simp only [Act.put, zA, zB, zC]
  refine tJ 3 (.int .i64 t) (some 47) rfl (SK.drop (by simp)) (Or.inl ⟨by rfl, ?_⟩) ?_
  ·intro X hX
   clear hX
   go_simp
  try simp only [Act.put, zA, zB, zC]
  refine only_I 4 (by kernel_rfl) rfl (fun K' hK' => ?_)
  go_simp
  go_at_call 54
  refine (OC.out _).mono ?_
  rintro e x12 ⟨rfl, hb⟩
  replace NN := Lib.hid (Bgo NN.out hb)
  replace HS := Lib.hid (HS.out.next hb)
  replace HD := Lib.hid (HD.out.next hb)
  replace SB := Lib.hid (blk_next hb SB.out)
  replace OB := Lib.hid (blk_next hb OB.out)
  go_simp
  refine hK'.out _ _ (fun k _ hS => hS.next hb) ?_
  clear hK' K'
  try simp only [Act.put, zA, zB, zC]
  replace HAL := Lib.hid (fun k => (HAL.out k).next hb)
  refine tJ 5 (.bool false) (some 49) rfl (SK.drop (by simp)) (Or.inl ⟨by rfl, ?_⟩) ?_
  ·intro X hX
   clear hX
   go_simp
  try simp only [Act.put, zA, zB, zC]
  refine tJ 6 (.bool false) (some 50) rfl (SK.drop (by simp)) (Or.inl ⟨by rfl, ?_⟩) ?_
  ·intro X hX
   clear hX
   go_simp
  try simp only [Act.put, zA, zB, zC]
  refine tJ 7 (.pointer (some ⟨w.heap.size, 3, none⟩)) (some 51) rfl (SK.drop (by simp)) (Or.inl ⟨by rfl, ?_⟩) ?_
  ·intro X hX
   clear hX
   go_simp
  try simp only [Act.put, zA, zB, zC]
  refine tJ 8 (.slice (some ⟨b, off, none⟩) os.length ca) (some 52) rfl (HAL.out 8) (Or.inl ⟨by rfl, ?_⟩) ?_
  ·intro X hX
   have hh := hX (8, w.heap.size, .cells #[.int .i64 d, .int .i64 p, .slice D ds.length cd, .slice (some ⟨b, off, none⟩) os.length ca] 25) (List.Mem.tail _ (List.Mem.tail _ (List.Mem.head _))) rfl
   have hh3 := blk_cell hh 3 _ rfl
   have hhl := blk_lt hh
   clear hh
   clear hX
   go_simp
  try simp only [Act.put, zA, zB, zC]
  refine tJ 9 (.int .i64 (k : Int)) (some 53) rfl (SK.drop (by simp)) (Or.inl ⟨by rfl, ?_⟩) ?_
  ·intro X hX
   clear hX
   go_simp
  try simp only [Act.put, zA, zB, zC]
  refine tJ 10 (.slice (some ⟨b, off, none⟩) k ca) (some 54) rfl (SK.drop (by simp)) (Or.inl ⟨by rfl, ?_⟩) ?_
  ·intro X hX
   clear hX
   go_simp
   all_goals (intro hbad; omega)
  try simp only [Act.put, zA, zB, zC]
  refine tJ 11 (.pointer (some ⟨g8, 0, none⟩)) (some 55) rfl (SK.drop (by simp)) (Or.inl ⟨by rfl, ?_⟩) ?_
  ·intro X hX
   clear hX
   go_simp
  try simp only [Act.put, zA, zB, zC]
  refine tJ 12 (.string nm) (some 56) rfl (HAL.out 12) (Or.inl ⟨by rfl, ?_⟩) ?_
  ·intro X hX
   have hh := hX (12, g8, .cells #[.string nm, .int .i64 sz, .int .i64 f, .int .i64 m, .int .i64 g] 50) (List.Mem.tail _ (List.Mem.tail _ (List.Mem.tail _ (List.Mem.head _)))) rfl
   have hh0 := blk_cell hh 0 _ rfl
   have hhl := blk_lt hh
   clear hh
   clear hX
   go_simp
  try simp only [Act.put, zA, zB, zC]
  refine only_I 13 (by kernel_rfl) rfl (fun K' hK' => ?_)
  go_simp
  go_at_call 44
  refine (FC.out _ (TKH.out _ HS.out)).mono ?_
  rintro e x13 ⟨rfl, hb⟩
  replace NN := Lib.hid (Bgo NN.out hb)
  replace HS := Lib.hid (HS.out.next hb)
  replace HD := Lib.hid (HD.out.next hb)
  replace SB := Lib.hid (blk_next hb SB.out)
  replace OB := Lib.hid (blk_next hb OB.out)
  go_simp
  refine hK'.out _ _ (fun k _ hS => hS.next hb) ?_
  clear hK' K'
  try simp only [Act.put, zA, zB, zC]
  replace HAL := Lib.hid (fun k => (HAL.out k).next hb)
  refine tJ 14 (.bool false) (some 58) rfl (SK.drop (by simp)) (Or.inl ⟨by rfl, ?_⟩) ?_
  ·intro X hX
   clear hX
   go_simp
  try simp only [Act.put, zA, zB, zC]
  refine tJ 15 (.bool false) (some 59) rfl (SK.drop (by simp)) (Or.inl ⟨by rfl, ?_⟩) ?_
  ·intro X hX
   clear hX
   go_simp
  try simp only [Act.put, zA, zB, zC]
  clear HAL
  refine done_I (by kernel_rfl) ?_ _
  have c_OB_0 := blk_cell OB.out 0 _ rfl
  have c_OB_1 := blk_cell OB.out 1 _ rfl
  have c_OB_2 := blk_cell OB.out 2 _ rfl
  have c_OB_3 := blk_cell OB.out 3 _ rfl
  have c_OB_4 := blk_cell OB.out 4 _ rfl
  have l_OB := blk_lt OB.out
  go_wp2_with fail
  clear c_OB_0 c_OB_1 c_OB_2 c_OB_3 c_OB_4 l_OB
  go_roundw
  case rel => exact ⟨k + 1, t + m, kk, by go_num, by go_num, by omega, by omega, T2, G2, NN, HS, HD, SB⟩
  case measure => simp [intOf]; omega
end Go.Proofs.Ytapehckcmmompaa
