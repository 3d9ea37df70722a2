/- Contracts, fourth part: sums, differences and products, of the program and of the reference. -/
import Derived.Test.YtbbjclbpllfdeaaDoorCxu
namespace Go.Proofs.YtbbjclbpllfdeaaDoor
open Go.ChangeShapes Go.WideShapes Go.ChangeAt Go.RowKit Cxm

theorem both_yes {ar ai ad br bi bd : Int} (h : chkB ar ai ad = true) (h' : chkB br bi bd = true) : bothE ar ai ad br bi bd = 0 := by unfold bothE; rw [h, h']; rfl
theorem both_no {ar ai ad br bi bd : Int} (h : ¬ (chkB ar ai ad = true ∧ chkB br bi bd = true)) : bothE ar ai ad br bi bd = 8 := by
  unfold bothE; rw [if_neg]; simpa using h

set_option maxHeartbeats 400000 in
theorem refBoth_calls (ar ai ad br bi bd : Int) (w : World) :
    Calls Tryd.prog 14 #[Cv ar ai ad, Cv br bi bd] w fun e w' => e = .returned (.int .i64 (bothE ar ai ad br bi bd)) ∧ Below w.heap.size w w' := by
  cases h : chkB ar ai ad
  · have F : Hid (bothE ar ai ad br bi bd = 8) := Lib.hid (by unfold bothE; rw [h]; rfl)
    have e1 := chkE_no h
    clear h
    go_enter Tryd.func14, Tryd.ntmps14
    go_wp2_with fail
    refine (refCheck_calls ar ai ad _).mono ?_
    rintro e w1 ⟨rfl, hb⟩
    go_wp2_with fail
    go_ret
    exact ⟨ret_int F.out.symm, Bgo (Bal (Bal (Below.refl _ _) _) _) hb⟩
  · have F : Hid (bothE ar ai ad br bi bd = chkE br bi bd) := Lib.hid (by unfold bothE chkE; rw [h]; rfl)
    have e1 := chkE_yes h
    clear h
    cases h2 : chkB br bi bd
    all_goals
      first | have e2 := chkE_no h2 | have e2 := chkE_yes h2
      have F2 := F.out
      rw [e2] at F2
      have F3 := Lib.hid F2
      clear h2 F2
      go_enter Tryd.func14, Tryd.ntmps14
      go_wp2_with fail
      refine (refCheck_calls ar ai ad _).mono ?_
      rintro e w1 ⟨rfl, hb⟩
      obtain ⟨hc, hf⟩ := bcell hb
      go_wp2_with fail
      refine (refCheck_calls br bi bd _).mono ?_
      rintro e w2 ⟨rfl, hb2⟩
      go_wp2_with fail
      go_ret
      exact ⟨ret_int F3.out.symm, Bgo (Bgo (Bal (Bal (Below.refl _ _) _) _) hb) hb2⟩

theorem prods {ar ai ad br bi bd : Int} (h1 : chkB ar ai ad = true) (h2 : chkB br bi bd = true) :
    (1 ≤ ad ∧ ad ≤ 1000000000 ∧ -1000000000 ≤ ar ∧ ar ≤ 1000000000 ∧ -1000000000 ≤ ai ∧ ai ≤ 1000000000) ∧ (1 ≤ bd ∧ bd ≤ 1000000000 ∧ -1000000000 ≤ br ∧ br ≤ 1000000000 ∧ -1000000000 ≤ bi ∧ bi ≤ 1000000000) := by
  have a := chk_iff.1 h1
  have b := chk_iff.1 h2
  omega

def sumS (ar ai ad br bi bd : Int) : Int × Int × Int × Int := if chkB ar ai ad && chkB br bi bd then made (ar * bd + br * ad) (ai * bd + bi * ad) (ad * bd) else (0, 0, 0, 8)

set_option maxHeartbeats 1000000 in
theorem add_calls (ar ai ad br bi bd r i d er : Int) (hm : sumS ar ai ad br bi bd = (r, i, d, er)) (w : World) :
    Calls Tryd.prog 16 #[Cv ar ai ad, Cv br bi bd] w fun e w' => e = .returned (Rv r i d er) ∧ Below w.heap.size w w' := by
  have HM := Lib.hid hm
  clear hm
  by_cases h : chkB ar ai ad = true ∧ chkB br bi bd = true
  · obtain ⟨h1, h2⟩ := h
    have e1 := both_yes h1 h2
    have M : Hid (made (ar * bd + br * ad) (ai * bd + bi * ad) (ad * bd) = (r, i, d, er)) := Lib.hid (by rw [← HM.out]; unfold sumS; rw [h1, h2]; rfl)
    obtain ⟨B1, B2⟩ := prods h1 h2
    clear h1 h2
    have p0 := mul_bd9 (a := ar) (b := bd) (by omega) (by omega) (by omega) (by omega)
    have p1 := mul_bd9 (a := br) (b := ad) (by omega) (by omega) (by omega) (by omega)
    have p2 := mul_bd9 (a := ai) (b := bd) (by omega) (by omega) (by omega) (by omega)
    have p3 := mul_bd9 (a := bi) (b := ad) (by omega) (by omega) (by omega) (by omega)
    have p4 := mul_bd9 (a := ad) (b := bd) (by omega) (by omega) (by omega) (by omega)
    have p5 := mul_bd9 (a := ar) (b := br) (by omega) (by omega) (by omega) (by omega)
    have p6 := mul_bd9 (a := ai) (b := bi) (by omega) (by omega) (by omega) (by omega)
    have p7 := mul_bd9 (a := ar) (b := bi) (by omega) (by omega) (by omega) (by omega)
    have p8 := mul_bd9 (a := ai) (b := br) (by omega) (by omega) (by omega) (by omega)
    go_enter Tryd.func16, Tryd.ntmps16
    go_wp2_with fail
    refine (checkBoth_calls ar ai ad br bi bd _).mono ?_
    rintro e w1 ⟨rfl, hb⟩
    obtain ⟨hc, hf⟩ := bcell hb
    go_wp2_with fail
    refine (make_calls _ _ _ _ _ _ _ M.out (by omega) (by omega) (by omega) (by omega) (by omega) (by omega) _).mono ?_
    rintro e w2 ⟨rfl, hb2⟩
    obtain ⟨hc2, hf2⟩ := bcell hb2
    have hz := hb.size
    simp at hz
    have hz : w.heap.size + 2 < w1.heap.size := by omega
    go_wp2_with fail
    have hy : ∀ o, o < 3 → (w2.cell? ⟨w.heap.size + 2, o, none⟩).isSome = true := by
      intro o ho
      rw [hc2 _ _ (by omega), hc _ _ (by simp)]
      rcases o with _ | _ | _ | o
      · simp [go_sem]
      · simp [go_sem]
      · simp [go_sem]
      · omega
    have hr := fun x y z => rd3 (W := w2) (B := w.heap.size + 2) x y z (hy 0 (by omega)) (hy 1 (by omega)) (hy 2 (by omega))
    exact bodyPost_ret (v := Rv r i d er) (by simp [results, Tryd.results16, go_sem, hr]) rfl ⟨rfl, Bset3 (Bgo (Bgo (Bal (Bal (Bal (Below.refl _ _) _) _) _) hb) hb2) (by omega) _ _ _⟩
  · have e1 := both_no h
    have F : Hid ((0, 0, 0, 8) = (r, i, d, er)) := Lib.hid (by rw [← HM.out]; unfold sumS; rw [if_neg (by simpa using h)])
    clear h
    go_enter Tryd.func16, Tryd.ntmps16
    go_wp2_with fail
    refine (checkBoth_calls ar ai ad br bi bd _).mono ?_
    rintro e w1 ⟨rfl, hb⟩
    obtain ⟨hc, hf⟩ := bcell hb
    go_wp2_with fail
    have hR := F.out
    simp only [Prod.mk.injEq] at hR
    obtain ⟨rfl, rfl, rfl, rfl⟩ := hR
    have hy : ∀ o, o < 3 → (w1.cell? ⟨w.heap.size + 2, o, none⟩).isSome = true := by
      intro o ho
      rw [hc _ _ (by simp)]
      rcases o with _ | _ | _ | o
      · simp [go_sem]
      · simp [go_sem]
      · simp [go_sem]
      · omega
    have hr := fun x y z => rd3 (W := w1) (B := w.heap.size + 2) x y z (hy 0 (by omega)) (hy 1 (by omega)) (hy 2 (by omega))
    exact bodyPost_ret (v := Rv 0 0 0 8) (by simp [results, Tryd.results16, go_sem, hr]) rfl ⟨rfl, Bset3 (Bgo (Bal (Bal (Bal (Below.refl _ _) _) _) _) hb) (by omega) _ _ _⟩

def mulS (ar ai ad br bi bd : Int) : Int × Int × Int × Int := if chkB ar ai ad && chkB br bi bd then made (ar * br - ai * bi) (ar * bi + ai * br) (ad * bd) else (0, 0, 0, 8)

set_option maxHeartbeats 1000000 in
theorem mul_calls (ar ai ad br bi bd r i d er : Int) (hm : mulS ar ai ad br bi bd = (r, i, d, er)) (w : World) :
    Calls Tryd.prog 17 #[Cv ar ai ad, Cv br bi bd] w fun e w' => e = .returned (Rv r i d er) ∧ Below w.heap.size w w' := by
  have HM := Lib.hid hm
  clear hm
  by_cases h : chkB ar ai ad = true ∧ chkB br bi bd = true
  · obtain ⟨h1, h2⟩ := h
    have e1 := both_yes h1 h2
    have M : Hid (made (ar * br - ai * bi) (ar * bi + ai * br) (ad * bd) = (r, i, d, er)) := Lib.hid (by rw [← HM.out]; unfold mulS; rw [h1, h2]; rfl)
    obtain ⟨B1, B2⟩ := prods h1 h2
    clear h1 h2
    have p0 := mul_bd9 (a := ar) (b := bd) (by omega) (by omega) (by omega) (by omega)
    have p1 := mul_bd9 (a := br) (b := ad) (by omega) (by omega) (by omega) (by omega)
    have p2 := mul_bd9 (a := ai) (b := bd) (by omega) (by omega) (by omega) (by omega)
    have p3 := mul_bd9 (a := bi) (b := ad) (by omega) (by omega) (by omega) (by omega)
    have p4 := mul_bd9 (a := ad) (b := bd) (by omega) (by omega) (by omega) (by omega)
    have p5 := mul_bd9 (a := ar) (b := br) (by omega) (by omega) (by omega) (by omega)
    have p6 := mul_bd9 (a := ai) (b := bi) (by omega) (by omega) (by omega) (by omega)
    have p7 := mul_bd9 (a := ar) (b := bi) (by omega) (by omega) (by omega) (by omega)
    have p8 := mul_bd9 (a := ai) (b := br) (by omega) (by omega) (by omega) (by omega)
    go_enter Tryd.func17, Tryd.ntmps17
    go_wp2_with fail
    refine (checkBoth_calls ar ai ad br bi bd _).mono ?_
    rintro e w1 ⟨rfl, hb⟩
    obtain ⟨hc, hf⟩ := bcell hb
    go_wp2_with fail
    refine (make_calls _ _ _ _ _ _ _ M.out (by omega) (by omega) (by omega) (by omega) (by omega) (by omega) _).mono ?_
    rintro e w2 ⟨rfl, hb2⟩
    obtain ⟨hc2, hf2⟩ := bcell hb2
    have hz := hb.size
    simp at hz
    have hz : w.heap.size + 2 < w1.heap.size := by omega
    go_wp2_with fail
    have hy : ∀ o, o < 3 → (w2.cell? ⟨w.heap.size + 2, o, none⟩).isSome = true := by
      intro o ho
      rw [hc2 _ _ (by omega), hc _ _ (by simp)]
      rcases o with _ | _ | _ | o
      · simp [go_sem]
      · simp [go_sem]
      · simp [go_sem]
      · omega
    have hr := fun x y z => rd3 (W := w2) (B := w.heap.size + 2) x y z (hy 0 (by omega)) (hy 1 (by omega)) (hy 2 (by omega))
    exact bodyPost_ret (v := Rv r i d er) (by simp [results, Tryd.results17, go_sem, hr]) rfl ⟨rfl, Bset3 (Bgo (Bgo (Bal (Bal (Bal (Below.refl _ _) _) _) _) hb) hb2) (by omega) _ _ _⟩
  · have e1 := both_no h
    have F : Hid ((0, 0, 0, 8) = (r, i, d, er)) := Lib.hid (by rw [← HM.out]; unfold mulS; rw [if_neg (by simpa using h)])
    clear h
    go_enter Tryd.func17, Tryd.ntmps17
    go_wp2_with fail
    refine (checkBoth_calls ar ai ad br bi bd _).mono ?_
    rintro e w1 ⟨rfl, hb⟩
    obtain ⟨hc, hf⟩ := bcell hb
    go_wp2_with fail
    have hR := F.out
    simp only [Prod.mk.injEq] at hR
    obtain ⟨rfl, rfl, rfl, rfl⟩ := hR
    have hy : ∀ o, o < 3 → (w1.cell? ⟨w.heap.size + 2, o, none⟩).isSome = true := by
      intro o ho
      rw [hc _ _ (by simp)]
      rcases o with _ | _ | _ | o
      · simp [go_sem]
      · simp [go_sem]
      · simp [go_sem]
      · omega
    have hr := fun x y z => rd3 (W := w1) (B := w.heap.size + 2) x y z (hy 0 (by omega)) (hy 1 (by omega)) (hy 2 (by omega))
    exact bodyPost_ret (v := Rv 0 0 0 8) (by simp [results, Tryd.results17, go_sem, hr]) rfl ⟨rfl, Bset3 (Bgo (Bal (Bal (Bal (Below.refl _ _) _) _) _) hb) (by omega) _ _ _⟩

def subS (ar ai ad br bi bd : Int) : Int × Int × Int × Int := if chkB ar ai ad && chkB br bi bd then made (ar * bd - br * ad) (ai * bd - bi * ad) (ad * bd) else (0, 0, 0, 8)

set_option maxHeartbeats 1000000 in
theorem sub_calls (ar ai ad br bi bd r i d er : Int) (hm : subS ar ai ad br bi bd = (r, i, d, er)) (w : World) :
    Calls Tryd.prog 21 #[Cv ar ai ad, Cv br bi bd] w fun e w' => e = .returned (Rv r i d er) ∧ Below w.heap.size w w' := by
  have HM := Lib.hid hm
  clear hm
  by_cases h : chkB ar ai ad = true ∧ chkB br bi bd = true
  · obtain ⟨h1, h2⟩ := h
    have e1 := both_yes h1 h2
    have M : Hid (made (ar * bd - br * ad) (ai * bd - bi * ad) (ad * bd) = (r, i, d, er)) := Lib.hid (by rw [← HM.out]; unfold subS; rw [h1, h2]; rfl)
    obtain ⟨B1, B2⟩ := prods h1 h2
    clear h1 h2
    have p0 := mul_bd9 (a := ar) (b := bd) (by omega) (by omega) (by omega) (by omega)
    have p1 := mul_bd9 (a := br) (b := ad) (by omega) (by omega) (by omega) (by omega)
    have p2 := mul_bd9 (a := ai) (b := bd) (by omega) (by omega) (by omega) (by omega)
    have p3 := mul_bd9 (a := bi) (b := ad) (by omega) (by omega) (by omega) (by omega)
    have p4 := mul_bd9 (a := ad) (b := bd) (by omega) (by omega) (by omega) (by omega)
    have p5 := mul_bd9 (a := ar) (b := br) (by omega) (by omega) (by omega) (by omega)
    have p6 := mul_bd9 (a := ai) (b := bi) (by omega) (by omega) (by omega) (by omega)
    have p7 := mul_bd9 (a := ar) (b := bi) (by omega) (by omega) (by omega) (by omega)
    have p8 := mul_bd9 (a := ai) (b := br) (by omega) (by omega) (by omega) (by omega)
    go_enter Tryd.func21, Tryd.ntmps21
    go_wp2_with fail
    refine (checkBoth_calls ar ai ad br bi bd _).mono ?_
    rintro e w1 ⟨rfl, hb⟩
    obtain ⟨hc, hf⟩ := bcell hb
    go_wp2_with fail
    refine (make_calls _ _ _ _ _ _ _ M.out (by omega) (by omega) (by omega) (by omega) (by omega) (by omega) _).mono ?_
    rintro e w2 ⟨rfl, hb2⟩
    obtain ⟨hc2, hf2⟩ := bcell hb2
    have hz := hb.size
    simp at hz
    have hz : w.heap.size + 2 < w1.heap.size := by omega
    go_wp2_with fail
    have hy : ∀ o, o < 3 → (w2.cell? ⟨w.heap.size + 2, o, none⟩).isSome = true := by
      intro o ho
      rw [hc2 _ _ (by omega), hc _ _ (by simp)]
      rcases o with _ | _ | _ | o
      · simp [go_sem]
      · simp [go_sem]
      · simp [go_sem]
      · omega
    have hr := fun x y z => rd3 (W := w2) (B := w.heap.size + 2) x y z (hy 0 (by omega)) (hy 1 (by omega)) (hy 2 (by omega))
    exact bodyPost_ret (v := Rv r i d er) (by simp [results, Tryd.results21, go_sem, hr]) rfl ⟨rfl, Bset3 (Bgo (Bgo (Bal (Bal (Bal (Below.refl _ _) _) _) _) hb) hb2) (by omega) _ _ _⟩
  · have e1 := both_no h
    have F : Hid ((0, 0, 0, 8) = (r, i, d, er)) := Lib.hid (by rw [← HM.out]; unfold subS; rw [if_neg (by simpa using h)])
    clear h
    go_enter Tryd.func21, Tryd.ntmps21
    go_wp2_with fail
    refine (checkBoth_calls ar ai ad br bi bd _).mono ?_
    rintro e w1 ⟨rfl, hb⟩
    obtain ⟨hc, hf⟩ := bcell hb
    go_wp2_with fail
    have hR := F.out
    simp only [Prod.mk.injEq] at hR
    obtain ⟨rfl, rfl, rfl, rfl⟩ := hR
    have hy : ∀ o, o < 3 → (w1.cell? ⟨w.heap.size + 2, o, none⟩).isSome = true := by
      intro o ho
      rw [hc _ _ (by simp)]
      rcases o with _ | _ | _ | o
      · simp [go_sem]
      · simp [go_sem]
      · simp [go_sem]
      · omega
    have hr := fun x y z => rd3 (W := w1) (B := w.heap.size + 2) x y z (hy 0 (by omega)) (hy 1 (by omega)) (hy 2 (by omega))
    exact bodyPost_ret (v := Rv 0 0 0 8) (by simp [results, Tryd.results21, go_sem, hr]) rfl ⟨rfl, Bset3 (Bgo (Bal (Bal (Bal (Below.refl _ _) _) _) _) hb) (by omega) _ _ _⟩
end Go.Proofs.YtbbjclbpllfdeaaDoor
