/- Contracts, third part: numbers made of any parts, of the program and of the reference. -/
import Derived.Test.YtbbjclbpllfdeaaDoorCxv
namespace Go.Proofs.YtbbjclbpllfdeaaDoor
open Go.ChangeShapes Go.WideShapes Go.ChangeAt Go.RowKit Cxm

def inB (x : Int) : Bool := decide (-2000000000000000000 ≤ x ∧ x ≤ 2000000000000000000)
theorem inB_bd {x : Int} (h : inB x = true) : -2000000000000000000 ≤ x ∧ x ≤ 2000000000000000000 := by simpa [inB] using h
theorem idx0 (a b c : Int) (w : World) : (Instr.index 59 (.agg #[.int .i64 a, .int .i64 b, .int .i64 c]) (.int .i64 0)).run Tryd.prog w = .ok (.int .i64 a) w := by kernel_rfl
theorem idx1 (a b c : Int) (w : World) : (Instr.index 59 (.agg #[.int .i64 a, .int .i64 b, .int .i64 c]) (.int .i64 1)).run Tryd.prog w = .ok (.int .i64 b) w := by kernel_rfl
theorem idx2 (a b c : Int) (w : World) : (Instr.index 59 (.agg #[.int .i64 a, .int .i64 b, .int .i64 c]) (.int .i64 2)).run Tryd.prog w = .ok (.int .i64 c) w := by kernel_rfl

set_option maxHeartbeats 1000000 in
theorem make_calls (re im den r i d er : Int) (hm : made re im den = (r, i, d, er)) (b1 : -2000000000000000000 ≤ re) (b1' : re ≤ 2000000000000000000) (b2 : -2000000000000000000 ≤ im) (b2' : im ≤ 2000000000000000000) (b3 : -2000000000000000000 ≤ den) (b3' : den ≤ 2000000000000000000) (w : World) :
    Calls Tryd.prog 29 #[.int .i64 re, .int .i64 im, .int .i64 den] w fun e w' => e = .returned (Rv r i d er) ∧ Below w.heap.size w w' := by
  have HM := Lib.hid hm
  clear hm
  have i0 := idx0 re im den
  have i1 := idx1 re im den
  have i2 := idx2 re im den
  go_enter Tryd.func29, Tryd.ntmps29
  go_wp2_with fail
  go_loop [9, 16] (fun _ i => ∃ k : Nat, k ≤ 3 ∧ i = .int .i64 k) (fun _ i => 3 - (intOf i).toNat)
  case atStart => exact ⟨0, by omega, rfl⟩
  case round =>
    obtain ⟨k, hk, rfl⟩ := hrel
    have hk' : k = 0 ∨ k = 1 ∨ k = 2 ∨ k = 3 := by omega
    rcases hk' with rfl | rfl | rfl | rfl
    · go_wp2_with fail
      exact ⟨⟨1, by omega, rfl⟩, by simp [intOf]⟩
    · go_wp2_with fail
      exact ⟨⟨2, by omega, rfl⟩, by simp [intOf]⟩
    · go_wp2_with fail
      exact ⟨⟨3, by omega, rfl⟩, by simp [intOf]⟩
    · clear i0 i1 i2
      by_cases h0 : den = 0
      · have e0 : (den == 0) = true := by simpa using h0
        have F : Hid ((0, 0, 0, 18) = (r, i, d, er)) := Lib.hid (by rw [← HM.out]; unfold made; rw [if_pos h0])
        clear h0
        go_wp2_with fail
        refine bodyPost_ret (v := Rv 0 0 0 18) (by simp [results, Tryd.results29, go_sem]) rfl ⟨?_, Bal (Below.refl _ _) _⟩
        have := F.out
        simp only [Prod.mk.injEq] at this
        obtain ⟨rfl, rfl, rfl, rfl⟩ := this
        rfl
      · have e0 : (den == 0) = false := by simpa using h0
        have n1 := g2_nonneg re im
        have n2 := g2_bd re im 2000000000000000000 (by omega) (by omega)
        have n3 : 1 ≤ g2 (g2 re im) den := g3_pos (a := re) (b := im) h0
        have n4 := g2_bd (g2 re im) den 2000000000000000000 (by omega) (by omega)
        have q1 := tdiv_bd re (sg re im den) 2000000000000000000 (by omega)
        have q2 := tdiv_bd im (sg re im den) 2000000000000000000 (by omega)
        have q3 := tdiv_bd den (sg re im den) 2000000000000000000 (by omega)
        have M : Hid ((if fitsB (re.tdiv (sg re im den)) && (fitsB (im.tdiv (sg re im den)) && fitsB (den.tdiv (sg re im den))) then (re.tdiv (sg re im den), im.tdiv (sg re im den), den.tdiv (sg re im den), 0) else (0, 0, 0, 16)) = (r, i, d, er)) := Lib.hid (by
          rw [← HM.out]; unfold made; rw [if_neg h0])
        have S : sg re im den = if den < 0 then -(g2 (g2 re im) den) else g2 (g2 re im) den := rfl
        have hs0 := sg_ne (a := re) (b := im) h0
        generalize sg re im den = s at *
        obtain ⟨r1, t1⟩ : ∃ x, re.tdiv s = x := ⟨_, rfl⟩
        obtain ⟨i1, t2⟩ : ∃ x, im.tdiv s = x := ⟨_, rfl⟩
        obtain ⟨d1, t3⟩ : ∃ x, den.tdiv s = x := ⟨_, rfl⟩
        rw [t1, t2, t3] at M
        rw [t1] at q1
        rw [t2] at q2
        rw [t3] at q3
        have k1 : -2000000000000000000 ≤ r1 ∧ r1 ≤ 2000000000000000000 := by omega
        have k2 : -2000000000000000000 ≤ i1 ∧ i1 ≤ 2000000000000000000 := by omega
        have k3 : -2000000000000000000 ≤ d1 ∧ d1 ≤ 2000000000000000000 := by omega
        clear h0 q1 q2 q3
        have hE : (fitsB r1 = true ∧ fitsB i1 = true ∧ fitsB d1 = true ∧ Hid ((r, i, d, er) = (r1, i1, d1, 0))) ∨ (fitsB r1 = false ∧ Hid ((r, i, d, er) = (0, 0, 0, 16))) ∨ (fitsB r1 = true ∧ fitsB i1 = false ∧ Hid ((r, i, d, er) = (0, 0, 0, 16))) ∨ (fitsB r1 = true ∧ fitsB i1 = true ∧ fitsB d1 = false ∧ Hid ((r, i, d, er) = (0, 0, 0, 16))) := by
          have M1 := M.out
          cases h1 : fitsB r1
          · rw [h1] at M1; exact .inr (.inl ⟨rfl, Lib.hid M1.symm⟩)
          cases h2 : fitsB i1
          · rw [h1, h2] at M1; exact .inr (.inr (.inl ⟨rfl, rfl, Lib.hid M1.symm⟩))
          cases h3 : fitsB d1
          · rw [h1, h2, h3] at M1; exact .inr (.inr (.inr ⟨rfl, rfl, rfl, Lib.hid M1.symm⟩))
          · rw [h1, h2, h3] at M1; exact .inl ⟨rfl, rfl, rfl, Lib.hid M1.symm⟩
        have hsg : Hid (s < 0 ∨ 1 ≤ s) := Lib.hid (by omega)
        clear hs0
        by_cases hd : den < 0
        all_goals
          first
            | (rw [if_pos hd] at S; have hneg : -(g2 (g2 re im) den) = s := S.symm; clear S; have hs1 : s < 0 := by omega)
            | (rw [if_neg hd] at S; have hneg : g2 (g2 re im) den = s := S.symm; clear S; have hs1 : 1 ≤ s := by omega)
          go_wp2_with fail
          refine (gcd_calls re im (by omega) (by omega) (by omega) (by omega) _).mono ?_
          rintro e w1 ⟨rfl, m1, rfl⟩
          go_wp2_with fail
          refine (gcd_calls (g2 re im) den (by omega) (by omega) (by omega) (by omega) _).mono ?_
          rintro e w1 ⟨rfl, m2, rfl⟩
          rcases hE with ⟨f1, f2, f3, HR⟩ | ⟨f1, HR⟩ | ⟨f1, f2, HR⟩ | ⟨f1, f2, f3, HR⟩
          all_goals
            go_wp2_with fail
            go_region
            go_wp2_with (go_at_call 39; refine (fits_calls _ _).mono ?_; rintro e w1 ⟨rfl, m3, rfl⟩)
            have hR := HR.out
            simp only [Prod.mk.injEq] at hR
            obtain ⟨rfl, rfl, rfl, rfl⟩ := hR
            exact bodyPost_ret (v := Rv _ _ _ _) (by simp [results, Tryd.results29, go_sem]) rfl ⟨rfl, Bset3 (below_drewN (Bal (below_drewN (Bal (Below.refl _ _) _) _) _) _) (Nat.le_refl _) _ _ _⟩
end Go.Proofs.YtbbjclbpllfdeaaDoor
