/- Contracts of layer 1: floors and expansions. -/
import Derived.Test.YtpeoecgehdicmaaDoorFrm
namespace Go.Proofs.YtpeoecgehdicmaaDoor
open Go.ChangeShapes Go.WideShapes Go.ChangeAt Go.RowKit
set_option linter.unusedVariables false
attribute [local go_sem ↓] Go.wp_at_zero Go.wp_at_succ

theorem floor_calls (x y : Int) (w : World) (h1 : -9223372036854775807 ≤ x) (h2 : x ≤ 9223372036854775807) (h3 : 1 ≤ y) (h4 : y ≤ 9223372036854775807) :
    Calls Tryd.prog 26 #[.int .i64 x, .int .i64 y] w fun e w' => e = .returned (.int .i64 (x / y)) ∧ w = w' := by
  obtain ⟨e1, e2⟩ := floor_eq (x := x) (y := y) (by omega)
  have b1 : -9223372036854775807 ≤ x / y ∧ x / y ≤ 9223372036854775807 := by
    have h5 := Int.mul_ediv_add_emod x y
    have h6 := Int.emod_nonneg x (show y ≠ 0 by omega)
    have h7 := Int.emod_lt_of_pos x (show 0 < y by omega)
    by_cases hx : 0 ≤ x
    · have := Int.ediv_nonneg hx (show 0 ≤ y by omega)
      have := Int.ediv_le_self y hx
      omega
    · have h8 : x / y < 0 := Int.ediv_neg_of_neg_of_pos (by omega) (by omega)
      have h9 : y * (x / y) ≤ 1 * (x / y) := Int.mul_le_mul_of_nonpos_right (by omega) (by omega)
      have h10 : x ≤ y * (x / y) + y - 1 := by omega
      have h11 : x ≤ x / y := by
        have h12 : (y - 1) * (x / y) ≤ (y - 1) * (-1) := Int.mul_le_mul_of_nonneg_left (by omega) (by omega)
        have h13 : (y - 1) * (x / y) = y * (x / y) - x / y := by rw [Int.sub_mul, Int.one_mul]
        omega
      omega
  have ny : ¬ y = 0 := by omega
  have rn : x < 0 → x / y < 0 := fun h => Int.ediv_neg_of_neg_of_pos h (by omega)
  generalize x / y = r at *
  obtain ⟨b1, b2⟩ := b1
  by_cases h : x.tmod y < 0
  · have e1 := e1 h
    clear e2
    obtain ⟨t, ht⟩ : ∃ t, x.tdiv y = t := ⟨_, rfl⟩
    obtain ⟨u, hu⟩ : ∃ u, x.tmod y = u := ⟨_, rfl⟩
    rw [hu] at h
    have e3 : t = r + 1 := by omega
    have t1 : t ≤ 9223372036854775807 ∨ t = 9223372036854775808 := by omega
    have t2 : t ≤ 9223372036854775807 := by
      have hx : x < 0 := by
        by_cases hx : x < 0
        · exact hx
        · have := Int.tmod_nonneg y (show 0 ≤ x by omega); omega
      have := rn hx; omega
    clear e1 e3 t1 rn
    have e4 : t - 1 = r := by omega
    have t3 : -9223372036854775808 ≤ t := by omega
    go_enter Tryd.func26, Tryd.ntmps26
    go_wp2_with fail
    go_ret
    exact ⟨rfl, rfl⟩
  · have e2 := e2 h
    clear e1 rn
    obtain ⟨u, hu⟩ : ∃ u, x.tmod y = u := ⟨_, rfl⟩
    rw [hu] at h
    go_enter Tryd.func26, Tryd.ntmps26
    go_wp2_with fail
    go_ret
    exact ⟨rfl, rfl⟩
theorem low_calls (x y : Int) (w : World) (h1 : -9223372036854775807 ≤ x) (h2 : x ≤ 9223372036854775807) (h3 : 1 ≤ y) (h4 : y ≤ 9223372036854775807) :
    Calls Tryd.prog 27 #[.int .i64 x, .int .i64 y] w fun e w' => e = .returned (.int .i64 (x / y)) ∧ w = w' := by
  obtain ⟨e1, e2⟩ := floor_eq (x := x) (y := y) (by omega)
  have b1 : -9223372036854775807 ≤ x / y ∧ x / y ≤ 9223372036854775807 := by
    have h5 := Int.mul_ediv_add_emod x y
    have h6 := Int.emod_nonneg x (show y ≠ 0 by omega)
    have h7 := Int.emod_lt_of_pos x (show 0 < y by omega)
    by_cases hx : 0 ≤ x
    · have := Int.ediv_nonneg hx (show 0 ≤ y by omega)
      have := Int.ediv_le_self y hx
      omega
    · have h8 : x / y < 0 := Int.ediv_neg_of_neg_of_pos (by omega) (by omega)
      have h9 : y * (x / y) ≤ 1 * (x / y) := Int.mul_le_mul_of_nonpos_right (by omega) (by omega)
      have h10 : x ≤ y * (x / y) + y - 1 := by omega
      have h11 : x ≤ x / y := by
        have h12 : (y - 1) * (x / y) ≤ (y - 1) * (-1) := Int.mul_le_mul_of_nonneg_left (by omega) (by omega)
        have h13 : (y - 1) * (x / y) = y * (x / y) - x / y := by rw [Int.sub_mul, Int.one_mul]
        omega
      omega
  have ny : ¬ y = 0 := by omega
  have rn : x < 0 → x / y < 0 := fun h => Int.ediv_neg_of_neg_of_pos h (by omega)
  generalize x / y = r at *
  obtain ⟨b1, b2⟩ := b1
  by_cases h : x.tmod y < 0
  · have e1 := e1 h
    clear e2
    obtain ⟨t, ht⟩ : ∃ t, x.tdiv y = t := ⟨_, rfl⟩
    obtain ⟨u, hu⟩ : ∃ u, x.tmod y = u := ⟨_, rfl⟩
    rw [hu] at h
    have e3 : t = r + 1 := by omega
    have t1 : t ≤ 9223372036854775807 ∨ t = 9223372036854775808 := by omega
    have t2 : t ≤ 9223372036854775807 := by
      have hx : x < 0 := by
        by_cases hx : x < 0
        · exact hx
        · have := Int.tmod_nonneg y (show 0 ≤ x by omega); omega
      have := rn hx; omega
    clear e1 e3 t1 rn
    have e4 : t - 1 = r := by omega
    have t3 : -9223372036854775808 ≤ t := by omega
    go_enter Tryd.func27, Tryd.ntmps27
    go_wp2_with fail
    go_ret
    exact ⟨rfl, rfl⟩
  · have e2 := e2 h
    clear e1 rn
    obtain ⟨u, hu⟩ : ∃ u, x.tmod y = u := ⟨_, rfl⟩
    rw [hu] at h
    go_enter Tryd.func27, Tryd.ntmps27
    go_wp2_with fail
    go_ret
    exact ⟨rfl, rfl⟩
theorem floor_bd {x y M : Int} (hM : 0 ≤ M) (h3 : 1 ≤ y) (_ : True) (h1 : -M ≤ x) (h2 : x ≤ M) : -M ≤ x / y ∧ x / y ≤ M := by
  have h5 := Int.mul_ediv_add_emod x y
  have h7 := Int.emod_lt_of_pos x (show 0 < y by omega)
  by_cases hx : 0 ≤ x
  · have := Int.ediv_nonneg hx (show 0 ≤ y by omega)
    have := Int.ediv_le_self y hx
    omega
  · have h8 : x / y < 0 := Int.ediv_neg_of_neg_of_pos (by omega) (by omega)
    have h12 : (y - 1) * (x / y) ≤ (y - 1) * (-1) := Int.mul_le_mul_of_nonneg_left (by omega) (by omega)
    have h13 : (y - 1) * (x / y) = y * (x / y) - x / y := by rw [Int.sub_mul, Int.one_mul]
    omega
def ExPost (w : World) (er : Int) (l : List Int) (e : Ending) (w' : World) : Prop := ∃ v, e = .returned (.tuple #[v, .int .i64 er]) ∧ w'.ownsRow w.heap.size 2 1 v l.length (lv l) ∧ Below w.heap.size w w'
def exR (N D : Int) : List Int := if errF N D = 0 then Farey.ex N D else []
set_option maxHeartbeats 2000000 in
theorem expand_calls (N D : Int) (w : World) :
    Calls Tryd.prog 6 #[Fv N D] w (ExPost w (errF N D) (exR N D)) := by
  have C1 := Lib.hid (fun W => check_calls N D W)
  obtain ⟨i0, hi0, hz0, hz1, hz2⟩ := info_parts i64_info
  have HI := Lib.hid (And.intro hi0 (And.intro hz0 (And.intro hz1 hz2)))
  clear hi0 hz0 hz1 hz2
  by_cases ck : errF N D = 0
  · have hd := errF_ok ck
    have d1 := hd.d1
    have d2 := hd.d2
    have d3 := hd.n1
    have d4 := hd.n2
    have ER : Hid (exR N D = Farey.ex N D) := Lib.hid (by unfold exR; rw [if_pos ck])
    rw [ck] at C1
    rw [ck, ER.out]
    have EL := Farey.ex_len (x := N) (y := D) (by omega) d2
    clear ck hd ER
    obtain ⟨E, hE⟩ : ∃ E, E = Farey.ex N D := ⟨_, rfl⟩
    rw [← hE] at EL ⊢
    have HE := Lib.hid hE
    clear hE
    go_enter Tryd.func6, Tryd.ntmps6
    go_wp2_with fail
    refine (C1.out _).mono ?_
    rintro e w1 ⟨rfl, hb⟩
    have A1 := Lib.hid (blk_next hb (blk_new w _))
    have N1 : Hid (Below w.heap.size w w1) := Lib.hid (Bgo (Bal (Below.refl _ _) _) hb)
    clear hb
    have a0 := blk_cell A1.out 0 _ rfl
    have a1 := blk_cell A1.out 1 _ rfl
    go_wp2_with fail
    go_quiet (fail)
    clear a0 a1
    replace N1 := Lib.hid (below_drewN N1.out nq)
    generalize w1.drewN nq = W at *
    clear A1
    go_wp2_with fail
    go_loopw [5, 6, 7] (fun v sx sy wr => ∃ (l : List Int) (x y : Int), sx = .int .i64 x ∧ sy = .int .i64 y ∧ -1000000000000000000 ≤ x ∧ x ≤ 1000000000000000000 ∧ 0 ≤ y ∧ y ≤ 1000000000000000000 ∧ Hid (l ++ Farey.ex x y = E) ∧ Hid (wr.ownsRow W.heap.size 2 1 v l.length (lv l)) ∧ Hid (Below W.heap.size W wr)) (fun _ _ sy _ => (intOf sy).toNat)
    case atStart => exact ⟨[], N, D, rfl, rfl, d3, d4, by omega, d2, Lib.hid (by rw [HE.out]; rfl), Lib.hid (World.ownsRow_nil _ _ _ _), Lib.hid (Below.refl _ _)⟩
    case round =>
      obtain ⟨l, x, y, rfl, rfl, x1, x2, y1, y2, HL, O, NB⟩ := hrel
      have ll : l.length ≤ 87 := by have := congrArg List.length HL.out; rw [List.length_append] at this; omega
      by_cases hy : 0 < y
      · have FC := Lib.hid (fun W => floor_calls x y W (by omega) (by omega) (by omega) (by omega))
        have r0 := Int.emod_nonneg x (show y ≠ 0 by omega)
        have r1 := Int.emod_lt_of_pos x hy
        have e5 := Int.mul_ediv_add_emod x y
        have HN : Hid (l ++ [x / y] ++ Farey.ex y (x % y) = E) := Lib.hid (by rw [List.append_assoc]; rw [Farey.ex_pos hy] at HL; exact HL.out)
        have fb : -1000000000000000000 ≤ x / y ∧ x / y ≤ 1000000000000000000 := floor_bd (by omega) (by omega) trivial x1 x2
        obtain ⟨c, hc⟩ : ∃ c, x / y = c := ⟨_, rfl⟩
        obtain ⟨r, hr⟩ : ∃ r, x % y = r := ⟨_, rfl⟩
        rw [hc] at FC e5 HN fb
        rw [hr] at r0 r1 e5 HN
        have e6 : c * y = x - r := by rw [Int.mul_comm]; omega
        have e7 : x - (x - r) = r := by omega
        obtain ⟨fb1, fb2⟩ := fb
        have ny : (y != 0) = true := by rw [bne_iff_ne]; omega
        clear hc hr e5
        go_wp2_with fail
        refine (FC.out _).mono ?_
        rintro e w2 ⟨rfl, rfl⟩
        go_wp2_with (at_builtin; refine wpList_append_rd _ rfl (.tmp 23) (.tmp 25) _ rfl W.heap.size 2 i0 _ 1 8 Tryd.underlying24 HI.out.1 HI.out.2.1 HI.out.2.2.1 HI.out.2.2.2 rfl (by omega) _ l.length _ rfl (O.out.alloc _) (some ⟨wr.heap.size, 0, none⟩) 1 1 [.int .i64 c] rfl (rd_one (t := 2) (blk_new _ _)) (int_one _ _) (by simp only [maxLen]; omega) (by omega) (by have q := NB.out.size; simp; omega) ?_; intro v1 w3 hown1 hg1 hat1; have O1 := Lib.hid hown1; have N3 : Hid (Below W.heap.size W w3) := Lib.hid (gbel hg1 (Bal NB.out _) (fun g hg => (O.out.lt g hg).1)); clear hown1 hg1 hat1)
        refine ⟨⟨l ++ [c], y, r, rfl, rfl, by omega, y2, r0, by omega, HN, Lib.hid ?_, N3⟩, by simp only [intOf]; omega⟩
        rw [List.length_append, lv_append]
        exact O1.out
      · obtain rfl : y = 0 := by omega
        have HN : Hid (l = E) := Lib.hid (by have := HL.out; rw [Farey.ex_zero (by omega), List.append_nil] at this; exact this)
        clear HL
        go_wp2_with fail
        go_ret2
        exact ⟨_, rfl, by rw [← HN.out]; exact own_mono O.out N1.out.size, Bgo N1.out NB.out⟩
  · have ER : Hid (exR N D = []) := Lib.hid (by unfold exR; rw [if_neg ck])
    have ck' : (errF N D != 0) = true := by rw [bne_iff_ne]; exact ck
    rw [ER.out]
    generalize errF N D = er at *
    clear ck ER
    go_enter Tryd.func6, Tryd.ntmps6
    go_wp2_with fail
    refine (C1.out _).mono ?_
    rintro e w1 ⟨rfl, hb⟩
    have A1 := Lib.hid (blk_next hb (blk_new w _))
    have N1 : Hid (Below w.heap.size w w1) := Lib.hid (Bgo (Bal (Below.refl _ _) _) hb)
    clear hb
    go_wp2_with fail
    go_ret2
    exact ⟨_, rfl, World.ownsRow_nil _ _ _ _, N1.out⟩
set_option maxHeartbeats 2000000 in
theorem refExpand_calls (N D : Int) (w : World) :
    Calls Tryd.prog 7 #[Fv N D] w (ExPost w (errF N D) (exR N D)) := by
  have C1 := Lib.hid (fun W => refCheck_calls N D W)
  obtain ⟨i0, hi0, hz0, hz1, hz2⟩ := info_parts i64_info
  have HI := Lib.hid (And.intro hi0 (And.intro hz0 (And.intro hz1 hz2)))
  clear hi0 hz0 hz1 hz2
  by_cases ck : errF N D = 0
  · have hd := errF_ok ck
    have d1 := hd.d1
    have d2 := hd.d2
    have d3 := hd.n1
    have d4 := hd.n2
    have ER : Hid (exR N D = Farey.ex N D) := Lib.hid (by unfold exR; rw [if_pos ck])
    rw [ck] at C1
    rw [ck, ER.out]
    have EL := Farey.ex_len (x := N) (y := D) (by omega) d2
    clear ck hd ER
    obtain ⟨E, hE⟩ : ∃ E, E = Farey.ex N D := ⟨_, rfl⟩
    rw [← hE] at EL ⊢
    have HE := Lib.hid hE
    clear hE
    go_enter Tryd.func7, Tryd.ntmps7
    go_wp2_with fail
    refine (C1.out _).mono ?_
    rintro e w1 ⟨rfl, hb⟩
    have A1 := Lib.hid (blk_next hb (blk_new w _))
    have N1 : Hid (Below w.heap.size w w1) := Lib.hid (Bgo (Bal (Below.refl _ _) _) hb)
    clear hb
    have a0 := blk_cell A1.out 0 _ rfl
    have a1 := blk_cell A1.out 1 _ rfl
    go_wp2_with fail
    go_quiet (fail)
    clear a0 a1
    replace N1 := Lib.hid (below_drewN N1.out nq)
    generalize w1.drewN nq = W at *
    clear A1
    go_wp2_with fail
    go_loopw [4, 5, 6] (fun v sx sy wr => ∃ (l : List Int) (x y : Int), sx = .int .i64 x ∧ sy = .int .i64 y ∧ -1000000000000000000 ≤ x ∧ x ≤ 1000000000000000000 ∧ 0 ≤ y ∧ y ≤ 1000000000000000000 ∧ Hid (l ++ Farey.ex x y = E) ∧ Hid (wr.ownsRow W.heap.size 2 1 v l.length (lv l)) ∧ Hid (Below W.heap.size W wr)) (fun _ _ sy _ => (intOf sy).toNat)
    case atStart => exact ⟨[], N, D, rfl, rfl, d3, d4, by omega, d2, Lib.hid (by rw [HE.out]; rfl), Lib.hid (World.ownsRow_nil _ _ _ _), Lib.hid (Below.refl _ _)⟩
    case round =>
      obtain ⟨l, x, y, rfl, rfl, x1, x2, y1, y2, HL, O, NB⟩ := hrel
      have ll : l.length ≤ 87 := by have := congrArg List.length HL.out; rw [List.length_append] at this; omega
      by_cases hy : 0 < y
      · have FC := Lib.hid (fun W => low_calls x y W (by omega) (by omega) (by omega) (by omega))
        have r0 := Int.emod_nonneg x (show y ≠ 0 by omega)
        have r1 := Int.emod_lt_of_pos x hy
        have e5 := Int.mul_ediv_add_emod x y
        have HN : Hid (l ++ [x / y] ++ Farey.ex y (x % y) = E) := Lib.hid (by rw [List.append_assoc]; rw [Farey.ex_pos hy] at HL; exact HL.out)
        have fb : -1000000000000000000 ≤ x / y ∧ x / y ≤ 1000000000000000000 := floor_bd (by omega) (by omega) trivial x1 x2
        obtain ⟨c, hc⟩ : ∃ c, x / y = c := ⟨_, rfl⟩
        obtain ⟨r, hr⟩ : ∃ r, x % y = r := ⟨_, rfl⟩
        rw [hc] at FC e5 HN fb
        rw [hr] at r0 r1 e5 HN
        have e6 : c * y = x - r := by rw [Int.mul_comm]; omega
        have e7 : x - (x - r) = r := by omega
        obtain ⟨fb1, fb2⟩ := fb
        have ny : (y != 0) = true := by rw [bne_iff_ne]; omega
        clear hc hr e5
        go_wp2_with fail
        refine (FC.out _).mono ?_
        rintro e w2 ⟨rfl, rfl⟩
        go_wp2_with (at_builtin; refine wpList_append_rd _ rfl (.tmp 22) (.tmp 24) _ rfl W.heap.size 2 i0 _ 1 8 Tryd.underlying24 HI.out.1 HI.out.2.1 HI.out.2.2.1 HI.out.2.2.2 rfl (by omega) _ l.length _ rfl (O.out.alloc _) (some ⟨wr.heap.size, 0, none⟩) 1 1 [.int .i64 c] rfl (rd_one (t := 2) (blk_new _ _)) (int_one _ _) (by simp only [maxLen]; omega) (by omega) (by have q := NB.out.size; simp; omega) ?_; intro v1 w3 hown1 hg1 hat1; have O1 := Lib.hid hown1; have N3 : Hid (Below W.heap.size W w3) := Lib.hid (gbel hg1 (Bal NB.out _) (fun g hg => (O.out.lt g hg).1)); clear hown1 hg1 hat1)
        refine ⟨⟨l ++ [c], y, r, rfl, rfl, by omega, y2, r0, by omega, HN, Lib.hid ?_, N3⟩, by simp only [intOf]; omega⟩
        rw [List.length_append, lv_append]
        exact O1.out
      · obtain rfl : y = 0 := by omega
        have HN : Hid (l = E) := Lib.hid (by have := HL.out; rw [Farey.ex_zero (by omega), List.append_nil] at this; exact this)
        clear HL
        go_wp2_with fail
        go_ret2
        exact ⟨_, rfl, by rw [← HN.out]; exact own_mono O.out N1.out.size, Bgo N1.out NB.out⟩
  · have ER : Hid (exR N D = []) := Lib.hid (by unfold exR; rw [if_neg ck])
    have ck' : (errF N D != 0) = true := by rw [bne_iff_ne]; exact ck
    rw [ER.out]
    generalize errF N D = er at *
    clear ck ER
    go_enter Tryd.func7, Tryd.ntmps7
    go_wp2_with fail
    refine (C1.out _).mono ?_
    rintro e w1 ⟨rfl, hb⟩
    have A1 := Lib.hid (blk_next hb (blk_new w _))
    have N1 : Hid (Below w.heap.size w w1) := Lib.hid (Bgo (Bal (Below.refl _ _) _) hb)
    clear hb
    have a0 := blk_cell A1.out 0 _ rfl
    have a1 := blk_cell A1.out 1 _ rfl
    go_wp2_with fail
    refine (C1.out _).mono ?_
    rintro e w2 ⟨rfl, hb⟩
    replace N1 := Lib.hid (Bgo N1.out hb)
    clear hb a0 a1
    go_wp2_with fail
    go_ret2
    exact ⟨_, rfl, World.ownsRow_nil _ _ _ _, N1.out⟩
end Go.Proofs.YtpeoecgehdicmaaDoor
