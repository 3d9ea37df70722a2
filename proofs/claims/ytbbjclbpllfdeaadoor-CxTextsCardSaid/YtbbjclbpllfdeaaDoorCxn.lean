/- Contracts: the order of rays, of the program and of the reference. -/
import Derived.Test.YtbbjclbpllfdeaaDoorBlk
import Derived.Test.YtbbjclbpllfdeaaDoorCxo
import Derived.RegionTactic
import Derived.Deep.RegionHeld3
namespace Go.Proofs.YtbbjclbpllfdeaaDoor
open Go.ChangeShapes Go.WideShapes Go.ChangeAt Go.RowKit Cxm
set_option linter.unusedVariables false

def upB (re im : Int) : Bool := decide (0 < im) || ((im == 0) && decide (0 < re))
def qr (re im : Int) : Int := if 0 < re ∧ 0 ≤ im then 0 else if re ≤ 0 ∧ 0 < im then 1 else if re < 0 then 2 else 3
def ordP (ar ai br bi : Int) : Int := if upB ar ai != upB br bi then (if upB ar ai then -1 else 1) else if 0 < ar * bi - ai * br then -1 else if ar * bi - ai * br < 0 then 1 else 0
def ordR (ar ai br bi : Int) : Int := if qr ar ai < qr br bi ∨ (qr ar ai = qr br bi ∧ ai * br - ar * bi < 0) then -1 else if qr br bi < qr ar ai ∨ 0 < ai * br - ar * bi then 1 else 0
theorem up_iff (re im : Int) : upB re im = true ↔ 0 < im ∨ (im = 0 ∧ 0 < re) := by simp [upB]
theorem qr_bd (re im : Int) : 0 ≤ qr re im ∧ qr re im ≤ 3 := by unfold qr; repeat (first | omega | split)
theorem mul_pos' {a b : Int} (ha : 0 < a) (hb : 0 < b) : 0 < a * b := Int.mul_pos ha hb
theorem mul_nn {a b : Int} (ha : 0 ≤ a) (hb : 0 ≤ b) : 0 ≤ a * b := Int.mul_nonneg ha hb
theorem ord_eq (ar ai br bi : Int) (ha : isZ ar ai = false) (hb : isZ br bi = false) : ordP ar ai br bi = ordR ar ai br bi := by
  have za : ¬ (ar = 0 ∧ ai = 0) := by rintro ⟨rfl, rfl⟩; exact absurd ha (by decide)
  have zb : ¬ (br = 0 ∧ bi = 0) := by rintro ⟨rfl, rfl⟩; exact absurd hb (by decide)
  have ka : (upB ar ai = true ↔ qr ar ai ≤ 1) := by rw [up_iff]; unfold qr; repeat (first | omega | split)
  have kb : (upB br bi = true ↔ qr br bi ≤ 1) := by rw [up_iff]; unfold qr; repeat (first | omega | split)
  have key : ∀ x y u v : Int, ¬ (x = 0 ∧ y = 0) → ¬ (u = 0 ∧ v = 0) → (qr x y ≤ 1 ↔ qr u v ≤ 1) → qr x y < qr u v → 0 < x * v - y * u := by
    intro x y u v hx hu hs hlt
    have bx := qr_bd x y
    have bu := qr_bd u v
    have hc : (qr x y = 0 ∧ qr u v = 1) ∨ (qr x y = 2 ∧ qr u v = 3) := by omega
    rcases hc with ⟨h1, h2⟩ | ⟨h1, h2⟩
    · have e1 : 0 < x ∧ 0 ≤ y := by unfold qr at h1; repeat (first | omega | split at h1)
      have e2 : u ≤ 0 ∧ 0 < v := by unfold qr at h2; repeat (first | omega | split at h2)
      have m1 := mul_pos' e1.1 e2.2
      have m2 := mul_nn e1.2 (show 0 ≤ -u by omega)
      rw [Int.mul_neg] at m2
      omega
    · have e1 : x < 0 ∧ y ≤ 0 := by unfold qr at h1; repeat (first | omega | split at h1)
      have e2 : 0 ≤ u ∧ v < 0 := by unfold qr at h2; repeat (first | omega | split at h2)
      have m1 := mul_pos' (show 0 < -x by omega) (show 0 < -v by omega)
      have m2 := mul_nn (show 0 ≤ -y by omega) e2.1
      rw [Int.neg_mul_neg] at m1
      rw [Int.neg_mul] at m2
      omega
  unfold ordP ordR
  have kl := key ar ai br bi za zb
  have kr := key br bi ar ai zb za
  have cm : br * ai = ai * br := Int.mul_comm _ _
  have cm2 : bi * ar = ar * bi := Int.mul_comm _ _
  rw [cm, cm2] at kr
  have bx := qr_bd ar ai
  have bu := qr_bd br bi
  generalize qr ar ai = p at *
  generalize qr br bi = q at *
  generalize ar * bi = X at *
  generalize ai * br = Y at *
  cases ua : upB ar ai <;> cases ub : upB br bi <;> simp only [ua, ub, Bool.false_eq_true, false_iff, true_iff] at ka kb <;> simp <;> repeat (first | omega | split)

theorem ret2_int {a b c : Int} (h : a = b) : Ending.returned (.tuple #[.int .i64 a, .int .i64 c]) = .returned (.tuple #[.int .i64 b, .int .i64 c]) := by rw [h]
theorem upper_calls (re im den : Int) (w : World) :
    Calls Tryd.prog 40 #[Cv re im den] w fun e w' => e = .returned (.bool (upB re im)) ∧ Below w.heap.size w w' := by
  generalize hz : upB re im = z
  have HZ := Lib.hid hz
  clear hz
  by_cases c1 : 0 < im
  · have F : Hid (z = true) := Lib.hid (by rw [← HZ.out, up_iff]; exact .inl c1)
    have d1 : decide (0 < im) = true := by simpa using c1
    go_enter Tryd.func40, Tryd.ntmps40
    go_wp2
    go_ret
    exact ⟨by rw [F.out]; rfl, Bal (Below.refl _ _) _⟩
  · have d1 : decide (0 < im) = false := by simpa using c1
    cases c2 : (im == 0)
    · have F : Hid (z = false) := Lib.hid (by rw [← HZ.out]; unfold upB; rw [d1, c2]; rfl)
      go_enter Tryd.func40, Tryd.ntmps40
      go_wp2
      go_ret
      exact ⟨by rw [F.out]; rfl, Bal (Below.refl _ _) _⟩
    · have F : Hid (z = decide (0 < re)) := Lib.hid (by rw [← HZ.out]; unfold upB; rw [d1, c2]; rfl)
      go_enter Tryd.func40, Tryd.ntmps40
      go_wp2
      go_ret
      exact ⟨by rw [F.out]; rfl, Bal (Below.refl _ _) _⟩

set_option maxHeartbeats 400000 in
theorem order_bad (ar ai ad br bi bd : Int) (h : ¬ (chkB ar ai ad = true ∧ chkB br bi bd = true)) (w : World) :
    Calls Tryd.prog 27 #[Cv ar ai ad, Cv br bi bd] w fun e w' => e = .returned (.tuple #[.int .i64 0, .int .i64 8]) ∧ Below w.heap.size w w' := by
  have e1 := both_no h
  clear h
  go_enter Tryd.func27, Tryd.ntmps27
  go_wp2_with fail
  refine (checkBoth_calls ar ai ad br bi bd _).mono ?_
  rintro e w1 ⟨rfl, hb⟩
  have b0 : w1.heap[w.heap.size]? = some (.cells #[.int .i64 (ar), .int .i64 (ai), .int .i64 (ad)] 23) := blk_next hb (blk_alloc (blk_new w _) _)
  have b1 : w1.heap[w.heap.size + 1]? = some (.cells #[.int .i64 (br), .int .i64 (bi), .int .i64 (bd)] 23) := blk_next hb (blk_at _ (by simp))
  have NB : Hid (Below w.heap.size w w1) := Lib.hid (Bgo (Bal (Bal (Below.refl _ _) _) _) hb)
  clear hb
  have cb0_0 : w1.cell? ⟨w.heap.size, 0, none⟩ = some (.int .i64 (ar)) := blk_cell b0 0 _ rfl
  have cfb0_0 : w1.frozen? ⟨w.heap.size, 0, none⟩ = false := blk_frozen b0 0
  have cb0_1 : w1.cell? ⟨w.heap.size, 1, none⟩ = some (.int .i64 (ai)) := blk_cell b0 1 _ rfl
  have cfb0_1 : w1.frozen? ⟨w.heap.size, 1, none⟩ = false := blk_frozen b0 1
  have cb0_2 : w1.cell? ⟨w.heap.size, 2, none⟩ = some (.int .i64 (ad)) := blk_cell b0 2 _ rfl
  have cfb0_2 : w1.frozen? ⟨w.heap.size, 2, none⟩ = false := blk_frozen b0 2
  have cb1_0 : w1.cell? ⟨w.heap.size + 1, 0, none⟩ = some (.int .i64 (br)) := blk_cell b1 0 _ rfl
  have cfb1_0 : w1.frozen? ⟨w.heap.size + 1, 0, none⟩ = false := blk_frozen b1 0
  have cb1_1 : w1.cell? ⟨w.heap.size + 1, 1, none⟩ = some (.int .i64 (bi)) := blk_cell b1 1 _ rfl
  have cfb1_1 : w1.frozen? ⟨w.heap.size + 1, 1, none⟩ = false := blk_frozen b1 1
  have cb1_2 : w1.cell? ⟨w.heap.size + 1, 2, none⟩ = some (.int .i64 (bd)) := blk_cell b1 2 _ rfl
  have cfb1_2 : w1.frozen? ⟨w.heap.size + 1, 2, none⟩ = false := blk_frozen b1 2
  go_wp2_with fail
  go_ret2
  exact ⟨rfl, NB.out⟩

set_option maxHeartbeats 400000 in
theorem order_zero (ar ai ad br bi bd : Int) (h1 : chkB ar ai ad = true) (h2 : chkB br bi bd = true) (hz : isZ ar ai = true ∨ (isZ ar ai = false ∧ isZ br bi = true)) (w : World) :
    Calls Tryd.prog 27 #[Cv ar ai ad, Cv br bi bd] w fun e w' => e = .returned (.tuple #[.int .i64 0, .int .i64 18]) ∧ Below w.heap.size w w' := by
  have e1 := both_yes h1 h2
  clear h1 h2
  rcases hz with hz | ⟨hz, hz2⟩
  · skip
    go_enter Tryd.func27, Tryd.ntmps27
    go_wp2_with fail
    refine (checkBoth_calls ar ai ad br bi bd _).mono ?_
    rintro e w1 ⟨rfl, hb⟩
    have b0 : w1.heap[w.heap.size]? = some (.cells #[.int .i64 (ar), .int .i64 (ai), .int .i64 (ad)] 23) := blk_next hb (blk_alloc (blk_new w _) _)
    have b1 : w1.heap[w.heap.size + 1]? = some (.cells #[.int .i64 (br), .int .i64 (bi), .int .i64 (bd)] 23) := blk_next hb (blk_at _ (by simp))
    have NB : Hid (Below w.heap.size w w1) := Lib.hid (Bgo (Bal (Bal (Below.refl _ _) _) _) hb)
    clear hb
    have cb0_0 : w1.cell? ⟨w.heap.size, 0, none⟩ = some (.int .i64 (ar)) := blk_cell b0 0 _ rfl
    have cfb0_0 : w1.frozen? ⟨w.heap.size, 0, none⟩ = false := blk_frozen b0 0
    have cb0_1 : w1.cell? ⟨w.heap.size, 1, none⟩ = some (.int .i64 (ai)) := blk_cell b0 1 _ rfl
    have cfb0_1 : w1.frozen? ⟨w.heap.size, 1, none⟩ = false := blk_frozen b0 1
    have cb0_2 : w1.cell? ⟨w.heap.size, 2, none⟩ = some (.int .i64 (ad)) := blk_cell b0 2 _ rfl
    have cfb0_2 : w1.frozen? ⟨w.heap.size, 2, none⟩ = false := blk_frozen b0 2
    have cb1_0 : w1.cell? ⟨w.heap.size + 1, 0, none⟩ = some (.int .i64 (br)) := blk_cell b1 0 _ rfl
    have cfb1_0 : w1.frozen? ⟨w.heap.size + 1, 0, none⟩ = false := blk_frozen b1 0
    have cb1_1 : w1.cell? ⟨w.heap.size + 1, 1, none⟩ = some (.int .i64 (bi)) := blk_cell b1 1 _ rfl
    have cfb1_1 : w1.frozen? ⟨w.heap.size + 1, 1, none⟩ = false := blk_frozen b1 1
    have cb1_2 : w1.cell? ⟨w.heap.size + 1, 2, none⟩ = some (.int .i64 (bd)) := blk_cell b1 2 _ rfl
    have cfb1_2 : w1.frozen? ⟨w.heap.size + 1, 2, none⟩ = false := blk_frozen b1 2
    go_wp2_with fail
    refine (isZero_calls ar ai ad _).mono ?_
    rintro e w2 ⟨rfl, hb2⟩
    go_wp2_with fail
    go_ret2
    exact ⟨rfl, Bgo NB.out hb2⟩
  · skip
    go_enter Tryd.func27, Tryd.ntmps27
    go_wp2_with fail
    refine (checkBoth_calls ar ai ad br bi bd _).mono ?_
    rintro e w1 ⟨rfl, hb⟩
    have b0 : w1.heap[w.heap.size]? = some (.cells #[.int .i64 (ar), .int .i64 (ai), .int .i64 (ad)] 23) := blk_next hb (blk_alloc (blk_new w _) _)
    have b1 : w1.heap[w.heap.size + 1]? = some (.cells #[.int .i64 (br), .int .i64 (bi), .int .i64 (bd)] 23) := blk_next hb (blk_at _ (by simp))
    have NB : Hid (Below w.heap.size w w1) := Lib.hid (Bgo (Bal (Bal (Below.refl _ _) _) _) hb)
    clear hb
    have cb0_0 : w1.cell? ⟨w.heap.size, 0, none⟩ = some (.int .i64 (ar)) := blk_cell b0 0 _ rfl
    have cfb0_0 : w1.frozen? ⟨w.heap.size, 0, none⟩ = false := blk_frozen b0 0
    have cb0_1 : w1.cell? ⟨w.heap.size, 1, none⟩ = some (.int .i64 (ai)) := blk_cell b0 1 _ rfl
    have cfb0_1 : w1.frozen? ⟨w.heap.size, 1, none⟩ = false := blk_frozen b0 1
    have cb0_2 : w1.cell? ⟨w.heap.size, 2, none⟩ = some (.int .i64 (ad)) := blk_cell b0 2 _ rfl
    have cfb0_2 : w1.frozen? ⟨w.heap.size, 2, none⟩ = false := blk_frozen b0 2
    have cb1_0 : w1.cell? ⟨w.heap.size + 1, 0, none⟩ = some (.int .i64 (br)) := blk_cell b1 0 _ rfl
    have cfb1_0 : w1.frozen? ⟨w.heap.size + 1, 0, none⟩ = false := blk_frozen b1 0
    have cb1_1 : w1.cell? ⟨w.heap.size + 1, 1, none⟩ = some (.int .i64 (bi)) := blk_cell b1 1 _ rfl
    have cfb1_1 : w1.frozen? ⟨w.heap.size + 1, 1, none⟩ = false := blk_frozen b1 1
    have cb1_2 : w1.cell? ⟨w.heap.size + 1, 2, none⟩ = some (.int .i64 (bd)) := blk_cell b1 2 _ rfl
    have cfb1_2 : w1.frozen? ⟨w.heap.size + 1, 2, none⟩ = false := blk_frozen b1 2
    go_wp2_with fail
    refine (isZero_calls ar ai ad _).mono ?_
    rintro e w2 ⟨rfl, hb2⟩
    have b2 : w2.heap[w.heap.size]? = some (.cells #[.int .i64 (ar), .int .i64 (ai), .int .i64 (ad)] 23) := blk_next hb2 b0
    have b3 : w2.heap[w.heap.size + 1]? = some (.cells #[.int .i64 (br), .int .i64 (bi), .int .i64 (bd)] 23) := blk_next hb2 b1
    have NB2 : Hid (Below w.heap.size w w2) := Lib.hid (Bgo NB.out hb2)
    clear hb2
    have cb2_0 : w2.cell? ⟨w.heap.size, 0, none⟩ = some (.int .i64 (ar)) := blk_cell b2 0 _ rfl
    have cfb2_0 : w2.frozen? ⟨w.heap.size, 0, none⟩ = false := blk_frozen b2 0
    have cb2_1 : w2.cell? ⟨w.heap.size, 1, none⟩ = some (.int .i64 (ai)) := blk_cell b2 1 _ rfl
    have cfb2_1 : w2.frozen? ⟨w.heap.size, 1, none⟩ = false := blk_frozen b2 1
    have cb2_2 : w2.cell? ⟨w.heap.size, 2, none⟩ = some (.int .i64 (ad)) := blk_cell b2 2 _ rfl
    have cfb2_2 : w2.frozen? ⟨w.heap.size, 2, none⟩ = false := blk_frozen b2 2
    have cb3_0 : w2.cell? ⟨w.heap.size + 1, 0, none⟩ = some (.int .i64 (br)) := blk_cell b3 0 _ rfl
    have cfb3_0 : w2.frozen? ⟨w.heap.size + 1, 0, none⟩ = false := blk_frozen b3 0
    have cb3_1 : w2.cell? ⟨w.heap.size + 1, 1, none⟩ = some (.int .i64 (bi)) := blk_cell b3 1 _ rfl
    have cfb3_1 : w2.frozen? ⟨w.heap.size + 1, 1, none⟩ = false := blk_frozen b3 1
    have cb3_2 : w2.cell? ⟨w.heap.size + 1, 2, none⟩ = some (.int .i64 (bd)) := blk_cell b3 2 _ rfl
    have cfb3_2 : w2.frozen? ⟨w.heap.size + 1, 2, none⟩ = false := blk_frozen b3 2
    go_wp2_with fail
    refine (isZero_calls br bi bd _).mono ?_
    rintro e w3 ⟨rfl, hb3⟩
    go_wp2_with fail
    go_ret2
    exact ⟨rfl, Bgo NB2.out hb3⟩

set_option maxHeartbeats 4000000 in
theorem order_ok (ar ai ad br bi bd : Int) (h1 : chkB ar ai ad = true) (h2 : chkB br bi bd = true) (ha : isZ ar ai = false) (hb0 : isZ br bi = false) (w : World) :
    Calls Tryd.prog 27 #[Cv ar ai ad, Cv br bi bd] w fun e w' => e = .returned (.tuple #[.int .i64 (ordP ar ai br bi), .int .i64 0]) ∧ Below w.heap.size w w' := by
  have e1 := both_yes h1 h2
  obtain ⟨B1, B2⟩ := prods h1 h2
  clear h1 h2
  have m1 := mul_bd9 (a := ar) (b := bi) (by omega) (by omega) (by omega) (by omega)
  have m2 := mul_bd9 (a := ai) (b := br) (by omega) (by omega) (by omega) (by omega)
  generalize hv : ordP ar ai br bi = v
  have HV := Lib.hid hv
  clear hv
  cases ua : upB ar ai <;> cases ub : upB br bi
  all_goals
    have F := HV.out
    unfold ordP at F
    rw [ua, ub] at F
    simp only [bne_self_eq_false, Bool.false_eq_true, if_false, if_true, Bool.true_bne, Bool.false_bne, Bool.not_false] at F
    have F1 := Lib.hid F
    clear F
    go_enter Tryd.func27, Tryd.ntmps27
    go_wp2_with fail
    refine (checkBoth_calls ar ai ad br bi bd _).mono ?_
    rintro e w1 ⟨rfl, hb⟩
    have b0 : w1.heap[w.heap.size]? = some (.cells #[.int .i64 (ar), .int .i64 (ai), .int .i64 (ad)] 23) := blk_next hb (blk_alloc (blk_new w _) _)
    have b1 : w1.heap[w.heap.size + 1]? = some (.cells #[.int .i64 (br), .int .i64 (bi), .int .i64 (bd)] 23) := blk_next hb (blk_at _ (by simp))
    have NB : Hid (Below w.heap.size w w1) := Lib.hid (Bgo (Bal (Bal (Below.refl _ _) _) _) hb)
    clear hb
    have cb0_0 : w1.cell? ⟨w.heap.size, 0, none⟩ = some (.int .i64 (ar)) := blk_cell b0 0 _ rfl
    have cfb0_0 : w1.frozen? ⟨w.heap.size, 0, none⟩ = false := blk_frozen b0 0
    have cb0_1 : w1.cell? ⟨w.heap.size, 1, none⟩ = some (.int .i64 (ai)) := blk_cell b0 1 _ rfl
    have cfb0_1 : w1.frozen? ⟨w.heap.size, 1, none⟩ = false := blk_frozen b0 1
    have cb0_2 : w1.cell? ⟨w.heap.size, 2, none⟩ = some (.int .i64 (ad)) := blk_cell b0 2 _ rfl
    have cfb0_2 : w1.frozen? ⟨w.heap.size, 2, none⟩ = false := blk_frozen b0 2
    have cb1_0 : w1.cell? ⟨w.heap.size + 1, 0, none⟩ = some (.int .i64 (br)) := blk_cell b1 0 _ rfl
    have cfb1_0 : w1.frozen? ⟨w.heap.size + 1, 0, none⟩ = false := blk_frozen b1 0
    have cb1_1 : w1.cell? ⟨w.heap.size + 1, 1, none⟩ = some (.int .i64 (bi)) := blk_cell b1 1 _ rfl
    have cfb1_1 : w1.frozen? ⟨w.heap.size + 1, 1, none⟩ = false := blk_frozen b1 1
    have cb1_2 : w1.cell? ⟨w.heap.size + 1, 2, none⟩ = some (.int .i64 (bd)) := blk_cell b1 2 _ rfl
    have cfb1_2 : w1.frozen? ⟨w.heap.size + 1, 2, none⟩ = false := blk_frozen b1 2
    go_wp2_with fail
    refine (isZero_calls ar ai ad _).mono ?_
    rintro e w2 ⟨rfl, hb2⟩
    have b2 : w2.heap[w.heap.size]? = some (.cells #[.int .i64 (ar), .int .i64 (ai), .int .i64 (ad)] 23) := blk_next hb2 b0
    have b3 : w2.heap[w.heap.size + 1]? = some (.cells #[.int .i64 (br), .int .i64 (bi), .int .i64 (bd)] 23) := blk_next hb2 b1
    have NB2 : Hid (Below w.heap.size w w2) := Lib.hid (Bgo NB.out hb2)
    clear hb2
    have cb2_0 : w2.cell? ⟨w.heap.size, 0, none⟩ = some (.int .i64 (ar)) := blk_cell b2 0 _ rfl
    have cfb2_0 : w2.frozen? ⟨w.heap.size, 0, none⟩ = false := blk_frozen b2 0
    have cb2_1 : w2.cell? ⟨w.heap.size, 1, none⟩ = some (.int .i64 (ai)) := blk_cell b2 1 _ rfl
    have cfb2_1 : w2.frozen? ⟨w.heap.size, 1, none⟩ = false := blk_frozen b2 1
    have cb2_2 : w2.cell? ⟨w.heap.size, 2, none⟩ = some (.int .i64 (ad)) := blk_cell b2 2 _ rfl
    have cfb2_2 : w2.frozen? ⟨w.heap.size, 2, none⟩ = false := blk_frozen b2 2
    have cb3_0 : w2.cell? ⟨w.heap.size + 1, 0, none⟩ = some (.int .i64 (br)) := blk_cell b3 0 _ rfl
    have cfb3_0 : w2.frozen? ⟨w.heap.size + 1, 0, none⟩ = false := blk_frozen b3 0
    have cb3_1 : w2.cell? ⟨w.heap.size + 1, 1, none⟩ = some (.int .i64 (bi)) := blk_cell b3 1 _ rfl
    have cfb3_1 : w2.frozen? ⟨w.heap.size + 1, 1, none⟩ = false := blk_frozen b3 1
    have cb3_2 : w2.cell? ⟨w.heap.size + 1, 2, none⟩ = some (.int .i64 (bd)) := blk_cell b3 2 _ rfl
    have cfb3_2 : w2.frozen? ⟨w.heap.size + 1, 2, none⟩ = false := blk_frozen b3 2
    go_wp2_with fail
    refine (isZero_calls br bi bd _).mono ?_
    rintro e w3 ⟨rfl, hb3⟩
    have b4 : w3.heap[w.heap.size]? = some (.cells #[.int .i64 (ar), .int .i64 (ai), .int .i64 (ad)] 23) := blk_next hb3 b2
    have b5 : w3.heap[w.heap.size + 1]? = some (.cells #[.int .i64 (br), .int .i64 (bi), .int .i64 (bd)] 23) := blk_next hb3 b3
    have NB3 : Hid (Below w.heap.size w w3) := Lib.hid (Bgo NB2.out hb3)
    clear hb3
    have cb4_0 : w3.cell? ⟨w.heap.size, 0, none⟩ = some (.int .i64 (ar)) := blk_cell b4 0 _ rfl
    have cfb4_0 : w3.frozen? ⟨w.heap.size, 0, none⟩ = false := blk_frozen b4 0
    have cb4_1 : w3.cell? ⟨w.heap.size, 1, none⟩ = some (.int .i64 (ai)) := blk_cell b4 1 _ rfl
    have cfb4_1 : w3.frozen? ⟨w.heap.size, 1, none⟩ = false := blk_frozen b4 1
    have cb4_2 : w3.cell? ⟨w.heap.size, 2, none⟩ = some (.int .i64 (ad)) := blk_cell b4 2 _ rfl
    have cfb4_2 : w3.frozen? ⟨w.heap.size, 2, none⟩ = false := blk_frozen b4 2
    have cb5_0 : w3.cell? ⟨w.heap.size + 1, 0, none⟩ = some (.int .i64 (br)) := blk_cell b5 0 _ rfl
    have cfb5_0 : w3.frozen? ⟨w.heap.size + 1, 0, none⟩ = false := blk_frozen b5 0
    have cb5_1 : w3.cell? ⟨w.heap.size + 1, 1, none⟩ = some (.int .i64 (bi)) := blk_cell b5 1 _ rfl
    have cfb5_1 : w3.frozen? ⟨w.heap.size + 1, 1, none⟩ = false := blk_frozen b5 1
    have cb5_2 : w3.cell? ⟨w.heap.size + 1, 2, none⟩ = some (.int .i64 (bd)) := blk_cell b5 2 _ rfl
    have cfb5_2 : w3.frozen? ⟨w.heap.size + 1, 2, none⟩ = false := blk_frozen b5 2
    clear b0 b1 b2 b3 cb0_0 cfb0_0 cb0_1 cfb0_1 cb0_2 cfb0_2 cb1_0 cfb1_0 cb1_1 cfb1_1 cb1_2 cfb1_2 cb2_0 cfb2_0 cb2_1 cfb2_1 cb2_2 cfb2_2 cb3_0 cfb3_0 cb3_1 cfb3_1 cb3_2 cfb3_2
    go_wp2_with fail
    go_region_held3 (fun w' => w'.cell? ⟨w.heap.size, 0, none⟩ = some (.int .i64 (ar)) ∧ w'.cell? ⟨w.heap.size, 1, none⟩ = some (.int .i64 (ai)) ∧ w'.cell? ⟨w.heap.size, 2, none⟩ = some (.int .i64 (ad)) ∧ w'.cell? ⟨w.heap.size + 1, 0, none⟩ = some (.int .i64 (br)) ∧ w'.cell? ⟨w.heap.size + 1, 1, none⟩ = some (.int .i64 (bi)) ∧ w'.cell? ⟨w.heap.size + 1, 2, none⟩ = some (.int .i64 (bd))) (first | (exact ⟨blk_cell wb0 0 _ rfl, blk_cell wb0 1 _ rfl, blk_cell wb0 2 _ rfl, blk_cell wb1 0 _ rfl, blk_cell wb1 1 _ rfl, blk_cell wb1 2 _ rfl⟩) | (exact ⟨blk_cell wa0 0 _ rfl, blk_cell wa0 1 _ rfl, blk_cell wa0 2 _ rfl, blk_cell wa1 0 _ rfl, blk_cell wa1 1 _ rfl, blk_cell wa1 2 _ rfl⟩) | (exact ⟨blk_cell b4 0 _ rfl, blk_cell b4 1 _ rfl, blk_cell b4 2 _ rfl, blk_cell b5 0 _ rfl, blk_cell b5 1 _ rfl, blk_cell b5 2 _ rfl⟩) | go_keep)
      (first | (go_at_call 40; (with_reducible refine (upper_calls ar ai ad _).mono ?_); rintro e wa ⟨rfl, hbwa⟩; have wa0 : wa.heap[w.heap.size]? = some (.cells #[.int .i64 (ar), .int .i64 (ai), .int .i64 (ad)] 23) := blk_next hbwa b4; have wa1 : wa.heap[w.heap.size + 1]? = some (.cells #[.int .i64 (br), .int .i64 (bi), .int .i64 (bd)] 23) := blk_next hbwa b5) | (go_at_call 40; (with_reducible refine (upper_calls br bi bd _).mono ?_); rintro e wb ⟨rfl, hbwb⟩; have wb0 : wb.heap[w.heap.size]? = some (.cells #[.int .i64 (ar), .int .i64 (ai), .int .i64 (ad)] 23) := blk_next hbwb wa0; have wb1 : wb.heap[w.heap.size + 1]? = some (.cells #[.int .i64 (br), .int .i64 (bi), .int .i64 (bd)] 23) := blk_next hbwb wa1))
    go_wp2_with fail
    all_goals
      first
        | (go_ret2
           refine ⟨ret2_int ?_, by first | exact Bgo (Bgo NB3.out hbwa) hbwb | exact Bgo (Bgo NB3.out.drew hbwa) hbwb⟩
           have FF := F1.out
           repeat (first | rw [if_pos (by omega)] at FF | rw [if_neg (by omega)] at FF)
           exact FF)
        | (refine (upper_calls ar ai ad _).mono ?_
           rintro e wc ⟨rfl, hbwc⟩
           go_wp2_with fail
           go_ret2
           exact ⟨ret2_int F1.out, by first | exact Bgo (Bgo (Bgo NB3.out hbwa) hbwb) hbwc | exact Bgo (Bgo (Bgo NB3.out.drew hbwa) hbwb) hbwc⟩)
end Go.Proofs.YtbbjclbpllfdeaaDoor
