/- Contracts on rows: the checks of a visibility in both packages, validity, comparison of keys. -/
import Derived.Test.YtbbnkclajpaghaaTc
import Derived.OpenShut
import Derived.StillTail
import Derived.StillTailTactics
namespace Go.Proofs.Ytbbnkclajpaghaa
open Go.ChangeShapes Go.WideShapes Go.ChangeAt Go.RowKit Cxm
set_option linter.unusedVariables false
def visE (r : Vr) : Int := bif visB r then 0 else 8
theorem visE_zero (r : Vr) : decide (visE r = 0) = visB r := by unfold visE; cases visB r <;> rfl
set_option maxHeartbeats 2000000 in
theorem wcheck_calls (r : Vr) (w : World) : Calls Try.prog 31 #[Wv r] w fun e w' => e = .returned (.int .i64 (visE r)) ∧ Below w.heap.size w w' := by
  obtain ⟨t, c, i, j, re, im, dn, n⟩ := r
  have IV : Hid (∀ W : World, Calls Try.prog 45 #[.agg #[.int .i64 re, .int .i64 im, .int .i64 dn]] W fun e w' => e = .returned (.bool (chkB re im dn)) ∧ Below W.heap.size W w') := Lib.hid (isValue_calls re im dn)
  have IW : Hid (∀ W : World, Calls Try.prog 46 #[.int .i64 n] W fun e w' => e = .returned (.bool (decide (0 ≤ n) && decide (n ≤ 1000000))) ∧ Below W.heap.size W w') := Lib.hid (fun W => (isWeight_calls n W).mono fun _ _ ⟨h, m, hm⟩ => ⟨h, hm ▸ below_drewN (Below.refl _ _) _⟩)
  generalize hv : visE ⟨t, c, i, j, re, im, dn, n⟩ = v
  simp only [visE, visB, valB] at hv
  generalize chkB re im dn = b1 at *
  generalize hb2 : (decide (0 ≤ n) && decide (n ≤ 1000000)) = b2 at *
  have HV := Lib.hid hv
  have NN := Lib.hid (Below.refl w.heap.size w)
  clear hv hb2
  have hc : i < 0 ∨ (0 ≤ i ∧ j ≤ i) ∨ (0 ≤ i ∧ i < j ∧ 8 ≤ j) ∨ (0 ≤ i ∧ i < j ∧ j < 8) := by omega
  rcases hc with h | ⟨h, h'⟩ | ⟨h, h', h''⟩ | ⟨h, h', h''⟩
  · have F : Hid (v = 8) := Lib.hid (by rw [← HV.out, decide_eq_false (by omega : ¬ 0 ≤ i)]; rfl)
    clear HV IV IW
    go_enter Try.func31, Try.ntmps31
    go_wp2_with fail
    go_ret
    exact ⟨ret_int F.out.symm, Bal NN.out _⟩
  · have F : Hid (v = 8) := Lib.hid (by rw [← HV.out, decide_eq_true h, decide_eq_false (by omega : ¬ i < j)]; rfl)
    clear HV IV IW
    go_enter Try.func31, Try.ntmps31
    go_wp2_with fail
    go_ret
    exact ⟨ret_int F.out.symm, Bal NN.out _⟩
  · have F : Hid (v = 8) := Lib.hid (by rw [← HV.out, decide_eq_true h, decide_eq_true h', decide_eq_false (by omega : ¬ j < 8)]; rfl)
    clear HV IV IW
    go_enter Try.func31, Try.ntmps31
    go_wp2_with fail
    go_ret
    exact ⟨ret_int F.out.symm, Bal NN.out _⟩
  · have F : Hid ((bif b1 && b2 then 0 else 8) = v) := Lib.hid (by rw [← HV.out, decide_eq_true h, decide_eq_true h', decide_eq_true h'']; rfl)
    clear HV
    go_enter Try.func31, Try.ntmps31
    go_wp2_with fail
    have V0 : Hid ((w.alloc (.cells #[.int .i64 i, .int .i64 j, .int .i64 re, .int .i64 im, .int .i64 dn, .int .i64 n] 26)).heap[w.heap.size]? = some (.cells #[.int .i64 i, .int .i64 j, .int .i64 re, .int .i64 im, .int .i64 dn, .int .i64 n] 26)) := Lib.hid (blk_new w _)
    replace NN : Hid (Below w.heap.size w (w.alloc (.cells #[.int .i64 i, .int .i64 j, .int .i64 re, .int .i64 im, .int .i64 dn, .int .i64 n] 26))) := Lib.hid (Bal NN.out _)
    generalize (w.alloc (.cells #[.int .i64 i, .int .i64 j, .int .i64 re, .int .i64 im, .int .i64 dn, .int .i64 n] 26)) = W1 at *
    have c_V0_0 := blk_cell V0.out 0 _ rfl
    have f_V0_0 := blk_frozen V0.out 0
    have c_V0_1 := blk_cell V0.out 1 _ rfl
    have f_V0_1 := blk_frozen V0.out 1
    have c_V0_2 := blk_cell V0.out 2 _ rfl
    have f_V0_2 := blk_frozen V0.out 2
    have c_V0_3 := blk_cell V0.out 3 _ rfl
    have f_V0_3 := blk_frozen V0.out 3
    have c_V0_4 := blk_cell V0.out 4 _ rfl
    have f_V0_4 := blk_frozen V0.out 4
    have c_V0_5 := blk_cell V0.out 5 _ rfl
    have f_V0_5 := blk_frozen V0.out 5
    have l_V0 := blk_lt V0.out
    go_wp2_with fail
    refine (IV.out _).mono ?_
    rintro e w2 ⟨rfl, hb⟩
    clear c_V0_0 f_V0_0 c_V0_1 f_V0_1 c_V0_2 f_V0_2 c_V0_3 f_V0_3 c_V0_4 f_V0_4 c_V0_5 f_V0_5 l_V0
    replace NN := Lib.hid (Bgo NN.out hb)
    replace V0 := Lib.hid (blk_next hb V0.out)
    clear hb
    have c_V0_0 := blk_cell V0.out 0 _ rfl
    have f_V0_0 := blk_frozen V0.out 0
    have c_V0_1 := blk_cell V0.out 1 _ rfl
    have f_V0_1 := blk_frozen V0.out 1
    have c_V0_2 := blk_cell V0.out 2 _ rfl
    have f_V0_2 := blk_frozen V0.out 2
    have c_V0_3 := blk_cell V0.out 3 _ rfl
    have f_V0_3 := blk_frozen V0.out 3
    have c_V0_4 := blk_cell V0.out 4 _ rfl
    have f_V0_4 := blk_frozen V0.out 4
    have c_V0_5 := blk_cell V0.out 5 _ rfl
    have f_V0_5 := blk_frozen V0.out 5
    have l_V0 := blk_lt V0.out
    cases b1
    · clear IV IW
      go_wp2_with fail
      clear c_V0_0 f_V0_0 c_V0_1 f_V0_1 c_V0_2 f_V0_2 c_V0_3 f_V0_3 c_V0_4 f_V0_4 c_V0_5 f_V0_5 l_V0
      go_ret
      exact ⟨ret_int F.out, NN.out⟩
    · clear IV
      go_wp2_with fail
      refine (IW.out _).mono ?_
      rintro e w3 ⟨rfl, hb⟩
      clear c_V0_0 f_V0_0 c_V0_1 f_V0_1 c_V0_2 f_V0_2 c_V0_3 f_V0_3 c_V0_4 f_V0_4 c_V0_5 f_V0_5 l_V0
      replace NN := Lib.hid (Bgo NN.out hb)
      replace V0 := Lib.hid (blk_next hb V0.out)
      clear hb
      cases b2 <;> (clear IW; go_wp2_with fail; go_ret; exact ⟨ret_int F.out, NN.out⟩)
theorem g3_alt (a b c : Int) : g2 b (g2 a c) = g3 a b c := by
  have h1 := g2_nonneg b (g2 a c)
  have h2 := g3_nonneg a b c
  have h3 : (g2 b (g2 a c)).natAbs = (g3 a b c).natAbs := by
    rw [g2_nat, g2_nat, g3_nat]
    rw [← Nat.gcd_assoc, Nat.gcd_comm b.natAbs]
  omega
theorem g2_abs_right (a b : Int) : g2 a (b.natAbs : Int) = g2 a b := by unfold g2 Int.gcd; simp
set_option maxHeartbeats 2000000 in
theorem common_calls (a b c : Int) (ha : -1000000000 ≤ a) (ha' : a ≤ 1000000000) (hb : -1000000000 ≤ b) (hb' : b ≤ 1000000000) (hc : 1 ≤ c) (hc' : c ≤ 1000000000) (w : World) :
    Calls Try.prog 59 #[.int .i64 a, .int .i64 b, .int .i64 c] w fun e w' => e = .returned (.int .i64 (g3 a b c)) ∧ Below w.heap.size w w' := by
  obtain ⟨g, hg⟩ : ∃ g, g2 a c = g := ⟨_, rfl⟩
  have hv := g3_alt a b c
  generalize g3 a b c = v at *
  rw [hg] at hv
  have HG := Lib.hid hg
  have HV := Lib.hid hv
  have NN := Lib.hid (Below.refl w.heap.size w)
  clear hg hv
  go_enter Try.func59, Try.ntmps59
  go_wp2
  go_loopw [0, 2] (fun p q wr => ∃ x z : Int, p = .int .i64 x ∧ q = .int .i64 z ∧ w = wr ∧ Hid (g2 x z = g) ∧ -1000000000 ≤ x ∧ x ≤ 1000000000 ∧ -1000000000 ≤ z ∧ z ≤ 1000000000) (fun p _ _ => (intOf p).natAbs)
  case atStart => exact ⟨a, c, rfl, rfl, rfl, HG, by omega, by omega, by omega, by omega⟩
  case round =>
    obtain ⟨x, z, rfl, rfl, rfl, HX, h1, h2, h3, h4⟩ := hrel
    by_cases hx : x = 0
    · subst hx
      have hx' : ((0 : Int) != 0) = false := rfl
      have HZ : Hid (g2 b z = v) := Lib.hid (by
        have e := HX.out
        rw [g2_comm, g2_zero] at e
        rw [← HV.out, ← e, g2_abs_right])
      clear HX HG HV h1 h2
      go_wp2
      go_loopw [1, 2] (fun p q wr => ∃ y t : Int, p = .int .i64 y ∧ q = .int .i64 t ∧ w = wr ∧ Hid (g2 y t = v) ∧ -1000000000 ≤ y ∧ y ≤ 1000000000 ∧ -1000000000 ≤ t ∧ t ≤ 1000000000) (fun p _ _ => (intOf p).natAbs)
      case atStart => exact ⟨b, z, rfl, rfl, rfl, HZ, by omega, by omega, by omega, by omega⟩
      case round =>
        obtain ⟨y, t, rfl, rfl, rfl, HY, k1, k2, k3, k4⟩ := hrel
        by_cases hy : y = 0
        · subst hy
          have hy' : ((0 : Int) != 0) = false := rfl
          have e := HY.out
          rw [g2_comm, g2_zero] at e
          have HE := Lib.hid e
          have hn : IntKind.i64.wrap (-t) = -t := IntWalk.i64_in _ (by omega)
          clear e HY HZ
          go_wp2
          all_goals
            go_ret
            refine ⟨ret_int ?_, NN.out⟩
            have e := HE.out
            omega
        · have hy' : (y != 0) = true := by simp [hy]
          have HN := Lib.hid hy
          clear hy
          have hb := tmod_bd t y HN.out
          have HS := Lib.hid (g2_step t y)
          have hw : IntKind.i64.wrap (t.tmod y) = t.tmod y := IntWalk.i64_in _ (by omega)
          go_wp2
          refine ⟨⟨t.tmod y, y, rfl, rfl, trivial, Lib.hid (by rw [g2_comm, HS.out, g2_comm]; exact HY.out), by omega, by omega, by omega, by omega⟩, ?_⟩
          simp only [intOf]; omega
    · have hx' : (x != 0) = true := by simp [hx]
      have HN := Lib.hid hx
      clear hx
      have hb := tmod_bd z x HN.out
      have HS := Lib.hid (g2_step z x)
      have hw : IntKind.i64.wrap (z.tmod x) = z.tmod x := IntWalk.i64_in _ (by omega)
      go_wp2
      refine ⟨⟨z.tmod x, x, rfl, rfl, trivial, Lib.hid (by rw [g2_comm, HS.out, g2_comm]; exact HX.out), by omega, by omega, by omega, by omega⟩, ?_⟩
      simp only [intOf]; omega
set_option maxHeartbeats 2000000 in
theorem refValid_calls (re im dn : Int) (w : World) : Calls Try.prog 48 #[.agg #[.int .i64 re, .int .i64 im, .int .i64 dn]] w fun e w' => e = .returned (.bool (chkB re im dn)) ∧ Below w.heap.size w w' := by
  generalize hv : chkB re im dn = v
  have NN := Lib.hid (Below.refl w.heap.size w)
  by_cases c : 1 ≤ dn ∧ dn ≤ 1000000000 ∧ -1000000000 ≤ re ∧ re ≤ 1000000000 ∧ -1000000000 ≤ im ∧ im ≤ 1000000000
  · obtain ⟨c1, c2, c3, c4, c5, c6⟩ := c
    have hv1 : decide (g3 re im dn = 1) = v := by rw [← hv]; unfold chkB fitsB; rw [decide_eq_true (show 1 ≤ dn ∧ dn ≤ 1000000000 from ⟨c1, c2⟩), decide_eq_true (show -1000000000 ≤ re ∧ re ≤ 1000000000 from ⟨c3, c4⟩), decide_eq_true (show -1000000000 ≤ im ∧ im ≤ 1000000000 from ⟨c5, c6⟩)]; rfl
    have CC := Lib.hid (common_calls re im dn c3 c4 c5 c6 c1 c2)
    generalize g3 re im dn = g at *
    have HV := Lib.hid hv1
    clear hv hv1
    go_enter Try.func48, Try.ntmps48
    go_wp2_with fail
    have V0 : Hid ((w.alloc (.cells #[.int .i64 re, .int .i64 im, .int .i64 dn] 24)).heap[w.heap.size]? = some (.cells #[.int .i64 re, .int .i64 im, .int .i64 dn] 24)) := Lib.hid (blk_new w _)
    replace NN : Hid (Below w.heap.size w (w.alloc (.cells #[.int .i64 re, .int .i64 im, .int .i64 dn] 24))) := Lib.hid (Bal NN.out _)
    generalize (w.alloc (.cells #[.int .i64 re, .int .i64 im, .int .i64 dn] 24)) = W1 at *
    have c_V0_0 := blk_cell V0.out 0 _ rfl
    have f_V0_0 := blk_frozen V0.out 0
    have c_V0_1 := blk_cell V0.out 1 _ rfl
    have f_V0_1 := blk_frozen V0.out 1
    have c_V0_2 := blk_cell V0.out 2 _ rfl
    have f_V0_2 := blk_frozen V0.out 2
    have l_V0 := blk_lt V0.out
    go_wp2_with fail
    refine (CC.out _).mono ?_
    rintro e w2 ⟨rfl, hb⟩
    clear c_V0_0 f_V0_0 c_V0_1 f_V0_1 c_V0_2 f_V0_2 l_V0
    replace NN := Lib.hid (Bgo NN.out hb)
    replace V0 := Lib.hid (blk_next hb V0.out)
    clear hb
    go_wp2_with fail
    go_ret
    exact ⟨ret_bool HV.out, NN.out⟩
  · have HV : Hid (v = false) := Lib.hid (by
      rw [← hv]
      cases h : chkB re im dn
      · rfl
      · have := chk_iff.1 h; omega)
    have hc : dn < 1 ∨ (1 ≤ dn ∧ 1000000000 < dn) ∨ (1 ≤ dn ∧ dn ≤ 1000000000 ∧ re < -1000000000) ∨ (1 ≤ dn ∧ dn ≤ 1000000000 ∧ -1000000000 ≤ re ∧ 1000000000 < re) ∨ (1 ≤ dn ∧ dn ≤ 1000000000 ∧ -1000000000 ≤ re ∧ re ≤ 1000000000 ∧ im < -1000000000) ∨ (1 ≤ dn ∧ dn ≤ 1000000000 ∧ -1000000000 ≤ re ∧ re ≤ 1000000000 ∧ -1000000000 ≤ im ∧ 1000000000 < im) := by omega
    clear c hv
    rcases hc with h | ⟨h, h1⟩ | ⟨h, h1, h2⟩ | ⟨h, h1, h2, h3⟩ | ⟨h, h1, h2, h3, h4⟩ | ⟨h, h1, h2, h3, h4, h5⟩
    all_goals
      go_enter Try.func48, Try.ntmps48
      go_wp2_with fail
      go_ret
      exact ⟨ret_bool HV.out.symm, Bal NN.out _⟩
set_option maxHeartbeats 2000000 in
theorem rcheck_calls (r : Vr) (w : World) : Calls Try.prog 35 #[Wv r] w fun e w' => e = .returned (.int .i64 (visE r)) ∧ Below w.heap.size w w' := by
  obtain ⟨t, c, i, j, re, im, dn, n⟩ := r
  have IV : Hid (∀ W : World, Calls Try.prog 48 #[.agg #[.int .i64 re, .int .i64 im, .int .i64 dn]] W fun e w' => e = .returned (.bool (chkB re im dn)) ∧ Below W.heap.size W w') := Lib.hid (refValid_calls re im dn)
  generalize hv : visE ⟨t, c, i, j, re, im, dn, n⟩ = v
  simp only [visE, visB, valB] at hv
  generalize chkB re im dn = b1 at *
  have HV := Lib.hid hv
  have NN := Lib.hid (Below.refl w.heap.size w)
  clear hv
  have hc : i < 0 ∨ (0 ≤ i ∧ j ≤ i) ∨ (0 ≤ i ∧ i < j ∧ 8 ≤ j) ∨ (0 ≤ i ∧ i < j ∧ j < 8) := by omega
  rcases hc with h | ⟨h, h'⟩ | ⟨h, h', h''⟩ | ⟨h, h', h''⟩
  · have F : Hid (v = 8) := Lib.hid (by rw [← HV.out, decide_eq_false (by omega : ¬ 0 ≤ i)]; rfl)
    clear HV IV
    go_enter Try.func35, Try.ntmps35
    go_wp2_with fail
    go_ret
    exact ⟨ret_int F.out.symm, Bal NN.out _⟩
  · have F : Hid (v = 8) := Lib.hid (by rw [← HV.out, decide_eq_true h, decide_eq_false (by omega : ¬ i < j)]; rfl)
    clear HV IV
    go_enter Try.func35, Try.ntmps35
    go_wp2_with fail
    go_ret
    exact ⟨ret_int F.out.symm, Bal NN.out _⟩
  · have F : Hid (v = 8) := Lib.hid (by rw [← HV.out, decide_eq_true h, decide_eq_true h', decide_eq_false (by omega : ¬ j < 8)]; rfl)
    clear HV IV
    go_enter Try.func35, Try.ntmps35
    go_wp2_with fail
    go_ret
    exact ⟨ret_int F.out.symm, Bal NN.out _⟩
  · have F : Hid ((bif b1 && (decide (0 ≤ n) && decide (n ≤ 1000000)) then 0 else 8) = v) := Lib.hid (by rw [← HV.out, decide_eq_true h, decide_eq_true h', decide_eq_true h'']; rfl)
    clear HV
    go_enter Try.func35, Try.ntmps35
    go_wp2_with fail
    have V0 : Hid ((w.alloc (.cells #[.int .i64 i, .int .i64 j, .int .i64 re, .int .i64 im, .int .i64 dn, .int .i64 n] 26)).heap[w.heap.size]? = some (.cells #[.int .i64 i, .int .i64 j, .int .i64 re, .int .i64 im, .int .i64 dn, .int .i64 n] 26)) := Lib.hid (blk_new w _)
    replace NN : Hid (Below w.heap.size w (w.alloc (.cells #[.int .i64 i, .int .i64 j, .int .i64 re, .int .i64 im, .int .i64 dn, .int .i64 n] 26))) := Lib.hid (Bal NN.out _)
    generalize (w.alloc (.cells #[.int .i64 i, .int .i64 j, .int .i64 re, .int .i64 im, .int .i64 dn, .int .i64 n] 26)) = W1 at *
    have c_V0_0 := blk_cell V0.out 0 _ rfl
    have f_V0_0 := blk_frozen V0.out 0
    have c_V0_1 := blk_cell V0.out 1 _ rfl
    have f_V0_1 := blk_frozen V0.out 1
    have c_V0_2 := blk_cell V0.out 2 _ rfl
    have f_V0_2 := blk_frozen V0.out 2
    have c_V0_3 := blk_cell V0.out 3 _ rfl
    have f_V0_3 := blk_frozen V0.out 3
    have c_V0_4 := blk_cell V0.out 4 _ rfl
    have f_V0_4 := blk_frozen V0.out 4
    have c_V0_5 := blk_cell V0.out 5 _ rfl
    have f_V0_5 := blk_frozen V0.out 5
    have l_V0 := blk_lt V0.out
    go_wp2_with fail
    refine (IV.out _).mono ?_
    rintro e w2 ⟨rfl, hb⟩
    clear c_V0_0 f_V0_0 c_V0_1 f_V0_1 c_V0_2 f_V0_2 c_V0_3 f_V0_3 c_V0_4 f_V0_4 c_V0_5 f_V0_5 l_V0
    replace NN := Lib.hid (Bgo NN.out hb)
    replace V0 := Lib.hid (blk_next hb V0.out)
    clear hb
    have c_V0_0 := blk_cell V0.out 0 _ rfl
    have f_V0_0 := blk_frozen V0.out 0
    have c_V0_1 := blk_cell V0.out 1 _ rfl
    have f_V0_1 := blk_frozen V0.out 1
    have c_V0_2 := blk_cell V0.out 2 _ rfl
    have f_V0_2 := blk_frozen V0.out 2
    have c_V0_3 := blk_cell V0.out 3 _ rfl
    have f_V0_3 := blk_frozen V0.out 3
    have c_V0_4 := blk_cell V0.out 4 _ rfl
    have f_V0_4 := blk_frozen V0.out 4
    have c_V0_5 := blk_cell V0.out 5 _ rfl
    have f_V0_5 := blk_frozen V0.out 5
    have l_V0 := blk_lt V0.out
    cases b1
    · clear IV
      go_wp2_with fail
      clear c_V0_0 f_V0_0 c_V0_1 f_V0_1 c_V0_2 f_V0_2 c_V0_3 f_V0_3 c_V0_4 f_V0_4 c_V0_5 f_V0_5 l_V0
      go_ret
      exact ⟨ret_int F.out, NN.out⟩
    · clear IV
      have hn : n < 0 ∨ (0 ≤ n ∧ n ≤ 1000000) ∨ (0 ≤ n ∧ 1000000 < n) := by omega
      rcases hn with hn | ⟨hn, hn'⟩ | ⟨hn, hn'⟩
      · replace F := Lib.hid (by have f := F.out; rw [decide_eq_false (by omega : ¬ 0 ≤ n)] at f; exact f)
        go_wp2_with fail
        go_ret
        exact ⟨ret_int F.out, NN.out⟩
      · replace F := Lib.hid (by have f := F.out; rw [decide_eq_true hn, decide_eq_true hn'] at f; exact f)
        go_wp2_with fail
        go_ret
        exact ⟨ret_int F.out, NN.out⟩
      · replace F := Lib.hid (by have f := F.out; rw [decide_eq_true hn, decide_eq_false (by omega : ¬ n ≤ 1000000)] at f; exact f)
        go_wp2_with fail
        go_ret
        exact ⟨ret_int F.out, NN.out⟩
end Go.Proofs.Ytbbnkclajpaghaa
