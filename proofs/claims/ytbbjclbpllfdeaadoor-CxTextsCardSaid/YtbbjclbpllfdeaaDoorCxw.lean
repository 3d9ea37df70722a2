/- Contracts of the functions of layer 25 and of its reference that the sums and products reach. -/
import Derived.Test.YtbbjclbpllfdeaaDoorRows
import Derived.Test.YtbbjclbpllfdeaaDoorCxm
import Derived.WalkKit
import Derived.ProofKit
import Derived.OpenShut
import Derived.WalkLawsBesides
import Derived.WalkSpells
import Derived.Outline
import Derived.Lib.Hide
import Derived.Deep.QuietTactic
import Derived.BigQuiet
import Derived.WalkSmall
namespace Go.Proofs.YtbbjclbpllfdeaaDoor
open Go.ChangeShapes Go.WideShapes Go.ChangeAt Go.RowKit Cxm

abbrev Cv (re im den : Int) : Value := .agg #[.int .i64 re, .int .i64 im, .int .i64 den]
theorem int_eq {k : IntKind} {a b : Int} (h : a = b) : Value.int k a = Value.int k b := by rw [h]
theorem ret_int {k : IntKind} {a b : Int} (h : a = b) : Ending.returned (.int k a) = .returned (.int k b) := by rw [h]
theorem bcell {W w1 : World} (hb : Below W.heap.size W w1) : (∀ b o, b < W.heap.size → w1.cell? ⟨b, o, none⟩ = W.cell? ⟨b, o, none⟩) ∧ (∀ b o, b < W.heap.size → w1.frozen? ⟨b, o, none⟩ = W.frozen? ⟨b, o, none⟩) :=
  ⟨fun b o h => hb.cell (p := ⟨b, o, none⟩) h, fun b o h => hb.frozen (p := ⟨b, o, none⟩) h⟩
theorem Bgo {w W w1 : World} (h : Below w.heap.size w W) (hb : Below W.heap.size W w1) : Below w.heap.size w w1 := h.trans (hb.mono h.size)
theorem Bal {w W : World} (h : Below w.heap.size w W) (o : Obj) : Below w.heap.size w (W.alloc o) := h.alloc h.size o
theorem Bset3 {w W : World} (h : Below w.heap.size w W) {B : Nat} (hB : w.heap.size ≤ B) (x y z : Value) : Below w.heap.size w (((W.setCell ⟨B, 0, none⟩ x).setCell ⟨B, 1, none⟩ y).setCell ⟨B, 2, none⟩ z) :=
  ((h.setCell hB x).setCell hB y).setCell hB z
theorem rd3 {W : World} {B : Nat} (x y z : Value) (h0 : (W.cell? ⟨B, 0, none⟩).isSome = true) (h1 : (W.cell? ⟨B, 1, none⟩).isSome = true) (h2 : (W.cell? ⟨B, 2, none⟩).isSome = true) :
    (((W.setCell ⟨B, 0, none⟩ x).setCell ⟨B, 1, none⟩ y).setCell ⟨B, 2, none⟩ z).cell? ⟨B, 0, none⟩ = some x ∧ (((W.setCell ⟨B, 0, none⟩ x).setCell ⟨B, 1, none⟩ y).setCell ⟨B, 2, none⟩ z).cell? ⟨B, 1, none⟩ = some y ∧ (((W.setCell ⟨B, 0, none⟩ x).setCell ⟨B, 1, none⟩ y).setCell ⟨B, 2, none⟩ z).cell? ⟨B, 2, none⟩ = some z := by
  have ne : ∀ i j : Nat, i ≠ j → (⟨B, i, none⟩ : Addr) ≠ ⟨B, j, none⟩ := fun i j h e => h (by injection e)
  have g1 : ((W.setCell ⟨B, 0, none⟩ x).cell? ⟨B, 1, none⟩).isSome = true := by rw [World.cell?_setCell_other (h := ne 0 1 (by decide))]; exact h1
  have g2 : (((W.setCell ⟨B, 0, none⟩ x).setCell ⟨B, 1, none⟩ y).cell? ⟨B, 2, none⟩).isSome = true := by
    rw [World.cell?_setCell_other (h := ne 1 2 (by decide)), World.cell?_setCell_other (h := ne 0 2 (by decide))]; exact h2
  refine ⟨?_, ?_, ?_⟩
  · rw [World.cell?_setCell_other (h := ne 2 0 (by decide)), World.cell?_setCell_other (h := ne 1 0 (by decide)), World.cell?_setCell_same' _ _ _ h0]
  · rw [World.cell?_setCell_other (h := ne 2 1 (by decide)), World.cell?_setCell_same' _ _ _ g1]
  · rw [World.cell?_setCell_same' _ _ _ g2]
theorem quiet_add {P : Program} {f : FuncId} {args : Array Value} {w : World} {a n : Nat} {v : Value}
    (h : Calls P f args (w.drewN (a + n)) fun e w' => e = .returned v ∧ ∃ m, w' = (w.drewN (a + n)).drewN m) :
    Calls P f args (w.drewN (a + n)) fun e w'' => e = .returned v ∧ ∃ m, w'' = w.drewN (a + m) :=
  h.mono fun _ _ ⟨he, m, hm⟩ => ⟨he, n + m, by rw [hm, World.drewN_drewN, Nat.add_assoc]⟩

theorem max_neg (a : Int) : (if a < -a then -a else a) = (a.natAbs : Int) := by split <;> omega

set_option maxHeartbeats 400000 in
theorem gcd_calls (a b : Int) (ha : -4000000000000000000 ≤ a) (ha' : a ≤ 4000000000000000000) (hb : -4000000000000000000 ≤ b) (hb' : b ≤ 4000000000000000000) (w : World) :
    Calls Tryd.prog 37 #[.int .i64 a, .int .i64 b] w fun e w' => e = .returned (.int .i64 (g2 a b)) ∧ ∃ m, w' = w.drewN m := by
  generalize hg : g2 a b = g
  have HG := Lib.hid hg
  clear hg
  go_enter Tryd.func37, Tryd.ntmps37
  go_wp2
  go_loopw [0, 1] (fun p q wr => ∃ x y : Int, ∃ n : Nat, p = .int .i64 x ∧ q = .int .i64 y ∧ wr = w.drewN n ∧ Hid (g2 x y = g) ∧ -4000000000000000000 ≤ x ∧ x ≤ 4000000000000000000 ∧ -4000000000000000000 ≤ y ∧ y ≤ 4000000000000000000) (fun _ q _ => (intOf q).natAbs)
  case atStart => exact ⟨a, b, 0, rfl, rfl, rfl, HG, by omega, by omega, by omega, by omega⟩
  case round =>
    obtain ⟨x, y, n, rfl, rfl, rfl, HX, h1, h2, h3, h4⟩ := hrel
    by_cases hy : y = 0
    · have hy' : (y != 0) = false := by simp [hy]
      have HY := Lib.hid hy
      clear hy
      go_wp2
      all_goals
        go_ret
        refine ⟨ret_int ?_, n, rfl⟩
        have e := HX.out
        rw [HY.out, g2_zero] at e
        omega
    · have hy' : (y != 0) = true := by simp [hy]
      have HY := Lib.hid hy
      clear hy
      have hb := tmod_bd x y HY.out
      have HS := Lib.hid (g2_step x y)
      have hw : IntKind.i64.wrap (x.tmod y) = x.tmod y := IntWalk.i64_in _ (by omega)
      go_wp2
      go_quiet (fail)
      go_wp2
      refine ⟨⟨y, x.tmod y, n + nq, rfl, rfl, by rw [World.drewN_drewN], Lib.hid (by rw [HS.out]; exact HX.out), by omega, by omega, by omega, by omega⟩, ?_⟩
      simp only [intOf]; omega
theorem fits_calls (a : Int) (w : World) :
    Calls Tryd.prog 39 #[.int .i64 a] w fun e w' => e = .returned (.bool (fitsB a)) ∧ ∃ m, w' = w.drewN m := by
  by_cases h : -1000000000 ≤ a
  all_goals
    go_enter Tryd.func39, Tryd.ntmps39
    go_wp2
    go_ret
    refine ⟨?_, 0, rfl⟩
    simp [fitsB, h]
    try omega

def chkE (re im den : Int) : Int := if chkB re im den then 0 else 8
theorem chkE_eq (re im den v : Int) (h : chkB re im den = decide (v = 0)) (hv : v = 0 ∨ v = 8) : v = chkE re im den := by
  unfold chkE; rw [h]; rcases hv with rfl | rfl <;> rfl
theorem fits_bd {x : Int} (h : fitsB x = true) : -1000000000 ≤ x ∧ x ≤ 1000000000 := by simpa [fitsB] using h

set_option maxHeartbeats 1000000 in
theorem check_calls (re im den : Int) (w : World) :
    Calls Tryd.prog 28 #[Cv re im den] w fun e w' => e = .returned (.int .i64 (chkE re im den)) ∧ Below w.heap.size w w' := by
  generalize hv : chkE re im den = v
  have HV := Lib.hid hv
  clear hv
  by_cases c1 : den < 1
  · have d1 : decide (den < 1) = true := by simpa using c1
    have F : Hid (v = 8) := Lib.hid (by rw [← HV.out]; unfold chkE chkB; rw [decide_eq_false (by omega)]; rfl)
    go_enter Tryd.func28, Tryd.ntmps28
    go_wp2
    go_quiet (fail)
    go_wp2
    go_ret
    exact ⟨ret_int F.out.symm, below_drewN ((Below.refl _ _).alloc (Nat.le_refl _) _) _⟩
  have d1 : decide (den < 1) = false := by simpa using c1
  by_cases c2 : den > 1000000000
  · have d2 : decide (1000000000 < den) = true := by simpa using c2
    have F : Hid (v = 8) := Lib.hid (by rw [← HV.out]; unfold chkE chkB; rw [decide_eq_false (by omega)]; rfl)
    go_enter Tryd.func28, Tryd.ntmps28
    go_wp2
    go_quiet (fail)
    go_wp2
    go_ret
    exact ⟨ret_int F.out.symm, below_drewN ((Below.refl _ _).alloc (Nat.le_refl _) _) _⟩
  have d2 : decide (1000000000 < den) = false := by simpa using c2
  have D : Hid (decide (1 ≤ den ∧ den ≤ 1000000000) = true) := Lib.hid (by simp; omega)
  cases c3 : fitsB re with
  | false =>
    have F : Hid (v = 8) := Lib.hid (by rw [← HV.out]; unfold chkE chkB; rw [D.out, c3]; rfl)
    go_enter Tryd.func28, Tryd.ntmps28
    go_wp2
    go_quiet ((go_at_call 39; exact Calls.quiet_of (fits_calls _ _)))
    go_wp2
    go_ret
    exact ⟨ret_int F.out.symm, below_drewN ((Below.refl _ _).alloc (Nat.le_refl _) _) _⟩
  | true =>
  cases c4 : fitsB im with
  | false =>
    have F : Hid (v = 8) := Lib.hid (by rw [← HV.out]; unfold chkE chkB; rw [D.out, c3, c4]; rfl)
    go_enter Tryd.func28, Tryd.ntmps28
    go_wp2
    go_quiet ((go_at_call 39; exact Calls.quiet_of (fits_calls _ _)))
    go_wp2
    go_ret
    exact ⟨ret_int F.out.symm, below_drewN ((Below.refl _ _).alloc (Nat.le_refl _) _) _⟩
  | true =>
    have b3 := fits_bd c3
    have b4 := fits_bd c4
    have n1 := g2_nonneg re im
    have n2 := g2_bd re im 1000000000 (by omega) (by omega)
    have F : Hid (v = if (g2 (g2 re im) den != 1) then 8 else 0) := Lib.hid (by rw [← HV.out]; unfold chkE chkB g3; rw [D.out, c3, c4]; by_cases h : g2 (g2 re im) den = 1 <;> simp [h])
    cases d5 : (g2 (g2 re im) den != 1)
    all_goals
      have F5 := F.out
      rw [d5] at F5
      have F6 := Lib.hid F5
      clear F5
      go_enter Tryd.func28, Tryd.ntmps28
      go_wp2
      go_quiet (first | (go_at_call 39; exact Calls.quiet_of (fits_calls _ _)) | (go_at_call 37; exact Calls.quiet_of (gcd_calls _ _ (by omega) (by omega) (by omega) (by omega) _)))
      go_wp2
      go_ret
      refine ⟨ret_int ?_, below_drewN ((Below.refl _ _).alloc (Nat.le_refl _) _) _⟩
      rw [F6.out]; rfl

set_option maxHeartbeats 400000 in
theorem refGcd_calls (a b : Int) (ha : -4000000000000000000 ≤ a) (ha' : a ≤ 4000000000000000000) (hb : -4000000000000000000 ≤ b) (hb' : b ≤ 4000000000000000000) (w : World) :
    Calls Tryd.prog 26 #[.int .i64 a, .int .i64 b] w fun e w' => e = .returned (.int .i64 (g2 a b)) ∧ ∃ m, w' = w.drewN m := by
  generalize hg : g2 a b = g
  have HG := Lib.hid hg
  have HG2 : Hid (g2 (-a) b = g ∧ g2 a (-b) = g ∧ g2 (-a) (-b) = g) := Lib.hid (by rw [g2_neg, g2_neg, g2_neg']; exact ⟨hg, hg, hg⟩)
  clear hg
  go_enter Tryd.func26, Tryd.ntmps26
  go_wp2
  all_goals
    go_loopw [0, 1] (fun p q wr => ∃ x y : Int, ∃ n : Nat, p = .int .i64 x ∧ q = .int .i64 y ∧ wr = w.drewN n ∧ Hid (g2 x y = g) ∧ 0 ≤ x ∧ x ≤ 4000000000000000000 ∧ 0 ≤ y ∧ y ≤ 4000000000000000000) (fun _ q _ => (intOf q).natAbs)
    case atStart => exact ⟨_, _, 0, rfl, rfl, rfl, (by first | exact HG | exact Lib.hid HG2.out.1 | exact Lib.hid HG2.out.2.1 | exact Lib.hid HG2.out.2.2), by omega, by omega, by omega, by omega⟩
    case round =>
      obtain ⟨x, y, n, rfl, rfl, rfl, HX, h1, h2, h3, h4⟩ := hrel
      by_cases hy : y = 0
      · have hy' : (y != 0) = false := by simp [hy]
        have HY := Lib.hid hy
        clear hy
        go_wp2
        go_ret
        refine ⟨ret_int ?_, n, rfl⟩
        have e := HX.out
        rw [HY.out, g2_zero] at e
        omega
      · have hy' : (y != 0) = true := by simp [hy]
        have HY := Lib.hid hy
        have hy1 : 1 ≤ y := by omega
        clear hy
        have hb := Int.emod_lt_of_pos x (show 0 < y by omega)
        have hb2 := Int.emod_nonneg x (show y ≠ 0 by omega)
        have HS := Lib.hid (g2_step x y)
        have HT : Hid (x.tmod y = x % y) := Lib.hid (Int.tmod_eq_emod_of_nonneg h1)
        have hw : IntKind.i64.wrap (x % y) = x % y := IntWalk.i64_in _ (by omega)
        go_wp2
        go_quiet (fail)
        go_wp2
        refine ⟨⟨y, x % y, n + nq, rfl, rfl, by rw [World.drewN_drewN], Lib.hid (by rw [← HT.out, HS.out]; exact HX.out), by omega, by omega, by omega, by omega⟩, ?_⟩
        simp only [intOf]; omega
end Go.Proofs.YtbbjclbpllfdeaaDoor
