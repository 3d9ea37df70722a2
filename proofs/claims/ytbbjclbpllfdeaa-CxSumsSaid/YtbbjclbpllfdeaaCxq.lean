/- Contracts, seventh part: differences of the reference. -/
import Derived.Test.YtbbjclbpllfdeaaCxt
import Derived.Deep.RegionHeld3
namespace Go.Proofs.Ytbbjclbpllfdeaa
open Go.ChangeShapes Go.WideShapes Go.ChangeAt Go.RowKit Cxm

theorem neg_calls (re im den : Int) (h1 : -1000000000 ≤ re) (h2 : re ≤ 1000000000) (h3 : -1000000000 ≤ im) (h4 : im ≤ 1000000000) (w : World) :
    Calls Try.prog 30 #[Cv re im den] w fun e w' => e = .returned (Cv (-re) (-im) den) ∧ Below w.heap.size w w' := by
  go_enter Try.func30, Try.ntmps30
  go_wp2
  exact bodyPost_ret (v := Cv (-re) (-im) den) (by simp [results, Try.results30, go_sem]) rfl ⟨rfl, Bal (Bal (Below.refl _ _) _) _⟩

theorem sub_sum (ar ai ad br bi bd : Int) : subS ar ai ad br bi bd = sumS ar ai ad (-br) (-bi) bd := by
  unfold subS sumS
  rw [chk_neg, Int.neg_mul, Int.neg_mul, ← Int.sub_eq_add_neg, ← Int.sub_eq_add_neg]

set_option maxHeartbeats 1000000 in
theorem refSub_calls (ar ai ad br bi bd r i d er : Int) (hm : subS ar ai ad br bi bd = (r, i, d, er)) (w : World) :
    Calls Try.prog 8 #[Cv ar ai ad, Cv br bi bd] w fun e w' => e = .returned (Rv r i d er) ∧ Below w.heap.size w w' := by
  have HM := Lib.hid hm
  clear hm
  by_cases h : chkB ar ai ad = true ∧ chkB br bi bd = true
  · obtain ⟨h1, h2⟩ := h
    have e1 := both_yes h1 h2
    have M : Hid (sumS ar ai ad (-br) (-bi) bd = (r, i, d, er)) := Lib.hid (by rw [← HM.out, sub_sum])
    obtain ⟨B1, B2⟩ := prods h1 h2
    clear h1 h2
    go_enter Try.func8, Try.ntmps8
    go_wp2_with fail
    refine (refBoth_calls ar ai ad br bi bd _).mono ?_
    rintro e w1 ⟨rfl, hb⟩
    obtain ⟨hc, hf⟩ := bcell hb
    have q0 : w1.cell? ⟨w.heap.size, 0, none⟩ = some (.int .i64 ar) := (hb.cell (by simp; omega)).trans (by simp [go_sem])
    have q1 : w1.cell? ⟨w.heap.size, 1, none⟩ = some (.int .i64 ai) := (hb.cell (by simp; omega)).trans (by simp [go_sem])
    have q2 : w1.cell? ⟨w.heap.size, 2, none⟩ = some (.int .i64 ad) := (hb.cell (by simp; omega)).trans (by simp [go_sem])
    have q3 : w1.cell? ⟨w.heap.size + 1, 0, none⟩ = some (.int .i64 br) := (hb.cell (by simp)).trans (by simp [go_sem])
    have q4 : w1.cell? ⟨w.heap.size + 1, 1, none⟩ = some (.int .i64 bi) := (hb.cell (by simp)).trans (by simp [go_sem])
    have q5 : w1.cell? ⟨w.heap.size + 1, 2, none⟩ = some (.int .i64 bd) := (hb.cell (by simp)).trans (by simp [go_sem])
    have hz := hb.size
    simp at hz
    have hz : w.heap.size + 2 < w1.heap.size := by omega
    have hz1 : w.heap.size + 1 + 1 < w1.heap.size := by omega
    go_wp2_with fail
    clear hc hf
    go_region_with (first | (go_at_call 30; refine (neg_calls br bi bd (by omega) (by omega) (by omega) (by omega) _).mono ?_; rintro e w2 ⟨rfl, hb2⟩; have hz2 : w1.heap.size ≤ w2.heap.size := hb2.size; have hz3 : w.heap.size + 1 + 1 < w2.heap.size := (by omega); have r0 : w2.cell? ⟨w.heap.size, 0, none⟩ = some (.int .i64 ar) := (hb2.cell (show w.heap.size < w1.heap.size by omega)).trans q0; have r1 : w2.cell? ⟨w.heap.size, 1, none⟩ = some (.int .i64 ai) := (hb2.cell (show w.heap.size < w1.heap.size by omega)).trans q1; have r2 : w2.cell? ⟨w.heap.size, 2, none⟩ = some (.int .i64 ad) := (hb2.cell (show w.heap.size < w1.heap.size by omega)).trans q2) | (go_at_call 6; refine (refAdd_calls _ _ _ _ _ _ _ _ _ _ M.out _).mono ?_; rintro e w3 ⟨rfl, hb3⟩; have k0 : w3.cell? ⟨w.heap.size + 1 + 1, 0, none⟩ = some (.int .i64 0) := (hb3.cell hz3).trans ((hb2.cell (show w.heap.size + 1 + 1 < w1.heap.size from hz1)).trans ((hb.cell (by simp)).trans (by simp [go_sem]))); have k1 : w3.cell? ⟨w.heap.size + 1 + 1, 1, none⟩ = some (.int .i64 0) := (hb3.cell hz3).trans ((hb2.cell (show w.heap.size + 1 + 1 < w1.heap.size from hz1)).trans ((hb.cell (by simp)).trans (by simp [go_sem]))); have k2 : w3.cell? ⟨w.heap.size + 1 + 1, 2, none⟩ = some (.int .i64 0) := (hb3.cell hz3).trans ((hb2.cell (show w.heap.size + 1 + 1 < w1.heap.size from hz1)).trans ((hb.cell (by simp)).trans (by simp [go_sem]))); have f0 : w3.frozen? ⟨w.heap.size + 1 + 1, 0, none⟩ = false := (hb3.frozen hz3).trans ((hb2.frozen (show w.heap.size + 1 + 1 < w1.heap.size from hz1)).trans ((hb.frozen (by simp)).trans (by simp [go_sem]))); have f1 : w3.frozen? ⟨w.heap.size + 1 + 1, 1, none⟩ = false := (hb3.frozen hz3).trans ((hb2.frozen (show w.heap.size + 1 + 1 < w1.heap.size from hz1)).trans ((hb.frozen (by simp)).trans (by simp [go_sem]))); have f2 : w3.frozen? ⟨w.heap.size + 1 + 1, 2, none⟩ = false := (hb3.frozen hz3).trans ((hb2.frozen (show w.heap.size + 1 + 1 < w1.heap.size from hz1)).trans ((hb.frozen (by simp)).trans (by simp [go_sem])))))
    all_goals
      go_wp2_with fail
      have hr := fun x y z => rd3 (W := w3) (B := w.heap.size + 1 + 1) x y z (by rw [k0]; rfl) (by rw [k1]; rfl) (by rw [k2]; rfl)
      refine bodyPost_ret (v := Rv r i d er) (by simp [results, Try.results8, go_sem, hr]) rfl ⟨rfl, Bset3 (Bgo ?_ hb3) (by omega) _ _ _⟩
      first
        | exact Bgo (Bgo (Bal (Bal (Bal (Below.refl _ _) _) _) _) hb).drew hb2
        | exact (Bgo (Bgo (Bal (Bal (Bal (Below.refl _ _) _) _) _) hb).drew hb2).drew
  · have e1 := both_no h
    have F : Hid ((0, 0, 0, 8) = (r, i, d, er)) := Lib.hid (by rw [← HM.out]; unfold subS; rw [if_neg (by simpa using h)])
    clear h
    go_enter Try.func8, Try.ntmps8
    go_wp2_with fail
    refine (refBoth_calls ar ai ad br bi bd _).mono ?_
    rintro e w1 ⟨rfl, hb⟩
    obtain ⟨hc, hf⟩ := bcell hb
    go_wp2_with fail
    have hR := F.out
    simp only [Prod.mk.injEq] at hR
    obtain ⟨rfl, rfl, rfl, rfl⟩ := hR
    have hy : ∀ o, o < 3 → (w1.cell? ⟨w.heap.size + 2, o, none⟩).isSome = true := by
      intro o ho
      rw [hc _ _ (by simp)]
      rcases o with _ | _ | _ | o
      · simp [go_sem]
      · simp [go_sem]
      · simp [go_sem]
      · omega
    have hr := fun x y z => rd3 (W := w1) (B := w.heap.size + 2) x y z (hy 0 (by omega)) (hy 1 (by omega)) (hy 2 (by omega))
    exact bodyPost_ret (v := Rv 0 0 0 8) (by simp [results, Try.results8, go_sem, hr]) rfl ⟨rfl, Bset3 (Bgo (Bal (Bal (Bal (Below.refl _ _) _) _) _) hb) (by omega) _ _ _⟩
end Go.Proofs.Ytbbjclbpllfdeaa
