/- Contracts, second part: the reference's check, both checks of two numbers, and reduced numbers. -/
import Derived.Test.YtbbjclbpllfdeaaCxw
import Derived.RegionTactic
import Derived.ChangeAlike
import Derived.Deep.RegionWith
import Derived.StillTailTactics
namespace Go.Proofs.Ytbbjclbpllfdeaa
open Go.ChangeShapes Go.WideShapes Go.ChangeAt Go.RowKit Cxm

abbrev Rv (r i d e : Int) : Value := .tuple #[.agg #[.int .i64 r, .int .i64 i, .int .i64 d], .int .i64 e]

set_option maxHeartbeats 2000000 in
theorem refCheck_calls (re im den : Int) (w : World) :
    Calls Try.prog 14 #[Cv re im den] w fun e w' => e = .returned (.int .i64 (chkE re im den)) ∧ Below w.heap.size w w' := by
  generalize hv : chkE re im den = v
  have HV := Lib.hid hv
  clear hv
  by_cases c : 1 ≤ den ∧ den ≤ 1000000000 ∧ -1000000000 ≤ re ∧ re ≤ 1000000000 ∧ -1000000000 ≤ im ∧ im ≤ 1000000000
  · obtain ⟨c1, c2, c3, c4, c5, c6⟩ := c
    have n1 := g2_nonneg re im
    have n2 := g2_bd re im 1000000000 (by omega) (by omega)
    have F : Hid (v = if (g2 (g2 re im) den != 1) then 8 else 0) := Lib.hid (by
      rw [← HV.out]; unfold chkE chkB fitsB g3
      rw [decide_eq_true (by omega), decide_eq_true (by omega), decide_eq_true (by omega)]
      by_cases h : g2 (g2 re im) den = 1 <;> simp [h])
    have e1 : decide (den < 1) = false := by simp; omega
    have e2 : decide (1000000000 < den) = false := by simp; omega
    have e3 : decide (re < -1000000000) = false := by simp; omega
    have e4 : decide (1000000000 < re) = false := by simp; omega
    have e5 : decide (im < -1000000000) = false := by simp; omega
    have e6 : decide (1000000000 < im) = false := by simp; omega
    cases d5 : (g2 (g2 re im) den != 1)
    all_goals
      have F5 := F.out
      rw [d5] at F5
      have F6 := Lib.hid F5
      clear F5
      go_enter Try.func14, Try.ntmps14
      go_wp2
      go_quiet ((go_at_call 34; exact Calls.quiet_of (refGcd_calls _ _ (by omega) (by omega) (by omega) (by omega) _)))
      go_wp2
      go_ret
      refine ⟨ret_int ?_, below_drewN ((Below.refl _ _).alloc (Nat.le_refl _) _) _⟩
      rw [F6.out]; rfl
  · have F : Hid (v = 8) := Lib.hid (by
      rw [← HV.out]; unfold chkE
      rw [if_neg]
      intro h
      have := chk_iff.1 h
      omega)
    by_cases c1 : den < 1
    · have e1 : decide (den < 1) = true := by simpa using c1
      go_enter Try.func14, Try.ntmps14
      go_wp2
      go_quiet (fail)
      go_wp2
      go_ret
      exact ⟨ret_int F.out.symm, below_drewN ((Below.refl _ _).alloc (Nat.le_refl _) _) _⟩
    have e1 : decide (den < 1) = false := by simpa using c1
    by_cases c2 : 1000000000 < den
    · have e2 : decide (1000000000 < den) = true := by simpa using c2
      go_enter Try.func14, Try.ntmps14
      go_wp2
      go_quiet (fail)
      go_wp2
      go_ret
      exact ⟨ret_int F.out.symm, below_drewN ((Below.refl _ _).alloc (Nat.le_refl _) _) _⟩
    have e2 : decide (1000000000 < den) = false := by simpa using c2
    by_cases c3 : re < -1000000000
    · have e3 : decide (re < -1000000000) = true := by simpa using c3
      go_enter Try.func14, Try.ntmps14
      go_wp2
      go_quiet (fail)
      go_wp2
      go_ret
      exact ⟨ret_int F.out.symm, below_drewN ((Below.refl _ _).alloc (Nat.le_refl _) _) _⟩
    have e3 : decide (re < -1000000000) = false := by simpa using c3
    by_cases c4 : 1000000000 < re
    · have e4 : decide (1000000000 < re) = true := by simpa using c4
      go_enter Try.func14, Try.ntmps14
      go_wp2
      go_quiet (fail)
      go_wp2
      go_ret
      exact ⟨ret_int F.out.symm, below_drewN ((Below.refl _ _).alloc (Nat.le_refl _) _) _⟩
    have e4 : decide (1000000000 < re) = false := by simpa using c4
    by_cases c5 : im < -1000000000
    · have e5 : decide (im < -1000000000) = true := by simpa using c5
      go_enter Try.func14, Try.ntmps14
      go_wp2
      go_quiet (fail)
      go_wp2
      go_ret
      exact ⟨ret_int F.out.symm, below_drewN ((Below.refl _ _).alloc (Nat.le_refl _) _) _⟩
    have e5 : decide (im < -1000000000) = false := by simpa using c5
    have c6 : 1000000000 < im := by omega
    have e6 : decide (1000000000 < im) = true := by simpa using c6
    go_enter Try.func14, Try.ntmps14
    go_wp2
    go_quiet (fail)
    go_wp2
    go_ret
    exact ⟨ret_int F.out.symm, below_drewN ((Below.refl _ _).alloc (Nat.le_refl _) _) _⟩

def bothE (ar ai ad br bi bd : Int) : Int := if chkB ar ai ad && chkB br bi bd then 0 else 8
theorem chkE_yes {a b c : Int} (h : chkB a b c = true) : chkE a b c = 0 := by unfold chkE; rw [h]; rfl
theorem chkE_no {a b c : Int} (h : chkB a b c = false) : chkE a b c = 8 := by unfold chkE; rw [h]; rfl

set_option maxHeartbeats 400000 in
theorem checkBoth_calls (ar ai ad br bi bd : Int) (w : World) :
    Calls Try.prog 27 #[Cv ar ai ad, Cv br bi bd] w fun e w' => e = .returned (.int .i64 (bothE ar ai ad br bi bd)) ∧ Below w.heap.size w w' := by
  cases h : chkB ar ai ad
  · have F : Hid (bothE ar ai ad br bi bd = 8) := Lib.hid (by unfold bothE; rw [h]; rfl)
    have e1 := chkE_no h
    have hc := fun w => check_calls ar ai ad w
    rw [e1] at hc
    have HC := Lib.hid hc
    clear e1 hc h
    go_enter Try.func27, Try.ntmps27
    go_wp2_with fail
    refine (HC.out _).mono ?_
    rintro e w1 ⟨rfl, hb⟩
    obtain ⟨hc, hf⟩ := bcell hb
    go_wp2_with fail
    go_ret
    exact ⟨ret_int F.out.symm, Bgo (Bal (Bal (Below.refl _ _) _) _) hb⟩
  · have F : Hid (bothE ar ai ad br bi bd = chkE br bi bd) := Lib.hid (by unfold bothE chkE; rw [h]; rfl)
    have e1 := chkE_yes h
    have hc := fun w => check_calls ar ai ad w
    rw [e1] at hc
    have HC := Lib.hid hc
    clear e1 hc h
    go_enter Try.func27, Try.ntmps27
    go_wp2_with fail
    refine (HC.out _).mono ?_
    rintro e w1 ⟨rfl, hb⟩
    obtain ⟨hc, hf⟩ := bcell hb
    go_wp2_with fail
    refine (check_calls br bi bd _).mono ?_
    rintro e w2 ⟨rfl, hb2⟩
    go_wp2_with fail
    go_ret
    exact ⟨ret_int F.out.symm, Bgo (Bgo (Bal (Bal (Below.refl _ _) _) _) hb) hb2⟩

set_option maxHeartbeats 400000 in
theorem refMade_calls (re im den r i d er : Int) (hm : made re im den = (r, i, d, er)) (b1 : -2000000000000000000 ≤ re) (b1' : re ≤ 2000000000000000000) (b2 : -2000000000000000000 ≤ im) (b2' : im ≤ 2000000000000000000) (b3 : -2000000000000000000 ≤ den) (b3' : den ≤ 2000000000000000000) (w : World) :
    Calls Try.prog 29 #[.int .i64 re, .int .i64 im, .int .i64 den] w fun e w' => e = .returned (Rv r i d er) ∧ Below w.heap.size w w' := by
  have HM := Lib.hid hm
  clear hm
  by_cases h0 : den = 0
  · have F : Hid ((0, 0, 0, 18) = (r, i, d, er)) := Lib.hid (by rw [← HM.out]; unfold made; rw [if_pos h0])
    have e0 : (den == 0) = true := by simpa using h0
    have H0 := Lib.hid h0
    clear h0
    go_enter Try.func29, Try.ntmps29
    go_wp2_with fail
    refine bodyPost_ret (v := Rv 0 0 0 18) (by simp [results, Try.results29, go_sem]) rfl ⟨?_, Bal (Below.refl _ _) _⟩
    have := F.out
    simp only [Prod.mk.injEq] at this
    obtain ⟨rfl, rfl, rfl, rfl⟩ := this
    rfl
  · have e0 : (den == 0) = false := by simpa using h0
    have n1 := g2_nonneg re im
    have n2 := g2_bd re im 2000000000000000000 (by omega) (by omega)
    have n3 : 1 ≤ g2 (g2 re im) den := g3_pos (a := re) (b := im) h0
    have n4 := g2_bd (g2 re im) den 2000000000000000000 (by omega) (by omega)
    have q1 := tdiv_bd re (sg re im den) 2000000000000000000 (by omega)
    have q2 := tdiv_bd im (sg re im den) 2000000000000000000 (by omega)
    have q3 := tdiv_bd den (sg re im den) 2000000000000000000 (by omega)
    have C : Hid (chkB (re.tdiv (sg re im den)) (im.tdiv (sg re im den)) (den.tdiv (sg re im den)) = (fitsB (re.tdiv (sg re im den)) && (fitsB (im.tdiv (sg re im den)) && fitsB (den.tdiv (sg re im den))))) := Lib.hid (chk_reduced h0)
    have M : Hid ((if fitsB (re.tdiv (sg re im den)) && (fitsB (im.tdiv (sg re im den)) && fitsB (den.tdiv (sg re im den))) then (re.tdiv (sg re im den), im.tdiv (sg re im den), den.tdiv (sg re im den), 0) else (0, 0, 0, 16)) = (r, i, d, er)) := Lib.hid (by
      rw [← HM.out]; unfold made; rw [if_neg h0])
    have S : sg re im den = if den < 0 then -(g2 (g2 re im) den) else g2 (g2 re im) den := rfl
    have hs0 := sg_ne (a := re) (b := im) h0
    generalize sg re im den = s at *
    obtain ⟨r1, t1⟩ : ∃ x, re.tdiv s = x := ⟨_, rfl⟩
    obtain ⟨i1, t2⟩ : ∃ x, im.tdiv s = x := ⟨_, rfl⟩
    obtain ⟨d1, t3⟩ : ∃ x, den.tdiv s = x := ⟨_, rfl⟩
    rw [t1, t2, t3] at M C
    rw [t1] at q1
    rw [t2] at q2
    rw [t3] at q3
    have k1 : -2000000000000000000 ≤ r1 ∧ r1 ≤ 2000000000000000000 := by omega
    have k2 : -2000000000000000000 ≤ i1 ∧ i1 ≤ 2000000000000000000 := by omega
    have k3 : -2000000000000000000 ≤ d1 ∧ d1 ≤ 2000000000000000000 := by omega
    clear h0 q1 q2 q3
    have hE : (chkE r1 i1 d1 = 0 ∧ Hid ((r, i, d, er) = (r1, i1, d1, 0))) ∨ (chkE r1 i1 d1 = 8 ∧ Hid ((r, i, d, er) = (0, 0, 0, 16))) := by
      have M1 := M.out
      rw [← C.out] at M1
      cases h : chkB r1 i1 d1
      · rw [h] at M1; exact .inr ⟨chkE_no h, Lib.hid M1.symm⟩
      · rw [h] at M1; exact .inl ⟨chkE_yes h, Lib.hid M1.symm⟩
    by_cases hd : den < 0
    · rw [if_pos hd] at S
      have hneg : -(g2 (g2 re im) den) = s := S.symm
      clear S
      have hs1 : s < 0 := by omega
      clear hs0
      rcases hE with ⟨hE, HR⟩ | ⟨hE, HR⟩
      all_goals
        go_enter Try.func29, Try.ntmps29
        go_wp2_with fail
        refine (refGcd_calls re im (by omega) (by omega) (by omega) (by omega) _).mono ?_
        rintro e w1 ⟨rfl, m1, rfl⟩
        go_wp2_with fail
        refine (refGcd_calls (g2 re im) den (by omega) (by omega) (by omega) (by omega) _).mono ?_
        rintro e w1 ⟨rfl, m2, rfl⟩
        go_wp2_with fail
        go_region
        go_wp2_with fail
        refine (refCheck_calls r1 i1 d1 _).mono ?_
        rintro e w1 ⟨rfl, hb⟩
        obtain ⟨hc, hf⟩ := bcell hb
        go_wp2_with fail
        have hR := HR.out
        simp only [Prod.mk.injEq] at hR
        obtain ⟨rfl, rfl, rfl, rfl⟩ := hR
        have hz : ∀ o, o < 3 → (w1.cell? ⟨w.heap.size, o, none⟩).isSome = true := by
          intro o ho
          rw [hc _ _ (by simp; omega)]
          rcases o with _ | _ | _ | o
          · simp [go_sem]
          · simp [go_sem]
          · simp [go_sem]
          · omega
        have hr := fun x y z => rd3 (W := w1) (B := w.heap.size) x y z (hz 0 (by omega)) (hz 1 (by omega)) (hz 2 (by omega))
        exact bodyPost_ret (v := Rv _ _ _ _) (by simp [results, Try.results29, go_sem, hr]) rfl ⟨rfl, Bset3 (Bgo (Bal (below_drewN (Bal (Below.refl _ _) _) _) _) hb) (Nat.le_refl _) _ _ _⟩
    · rw [if_neg hd] at S
      have hneg : g2 (g2 re im) den = s := S.symm
      clear S
      have hs1 : 1 ≤ s := by omega
      clear hs0
      rcases hE with ⟨hE, HR⟩ | ⟨hE, HR⟩
      all_goals
        go_enter Try.func29, Try.ntmps29
        go_wp2_with fail
        refine (refGcd_calls re im (by omega) (by omega) (by omega) (by omega) _).mono ?_
        rintro e w1 ⟨rfl, m1, rfl⟩
        go_wp2_with fail
        refine (refGcd_calls (g2 re im) den (by omega) (by omega) (by omega) (by omega) _).mono ?_
        rintro e w1 ⟨rfl, m2, rfl⟩
        go_wp2_with fail
        go_region
        go_wp2_with fail
        refine (refCheck_calls r1 i1 d1 _).mono ?_
        rintro e w1 ⟨rfl, hb⟩
        obtain ⟨hc, hf⟩ := bcell hb
        go_wp2_with fail
        have hR := HR.out
        simp only [Prod.mk.injEq] at hR
        obtain ⟨rfl, rfl, rfl, rfl⟩ := hR
        have hz : ∀ o, o < 3 → (w1.cell? ⟨w.heap.size, o, none⟩).isSome = true := by
          intro o ho
          rw [hc _ _ (by simp; omega)]
          rcases o with _ | _ | _ | o
          · simp [go_sem]
          · simp [go_sem]
          · simp [go_sem]
          · omega
        have hr := fun x y z => rd3 (W := w1) (B := w.heap.size) x y z (hz 0 (by omega)) (hz 1 (by omega)) (hz 2 (by omega))
        exact bodyPost_ret (v := Rv _ _ _ _) (by simp [results, Try.results29, go_sem, hr]) rfl ⟨rfl, Bset3 (Bgo (Bal (below_drewN (Bal (Below.refl _ _) _) _) _) hb) (Nat.le_refl _) _ _ _⟩
end Go.Proofs.Ytbbjclbpllfdeaa
