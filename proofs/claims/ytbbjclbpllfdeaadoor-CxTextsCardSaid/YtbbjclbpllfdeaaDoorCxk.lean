/- Contracts: numbers made of any parts, also of those that are too great, of the program and of the reference. -/
import Derived.Test.YtbbjclbpllfdeaaDoorBlk
import Derived.Test.YtbbjclbpllfdeaaDoorCxu
namespace Go.Proofs.YtbbjclbpllfdeaaDoor
open Go.ChangeShapes Go.WideShapes Go.ChangeAt Go.RowKit Cxm
set_option linter.unusedVariables false

def okB (re im den : Int) : Bool := inB re && (inB im && inB den)

set_option maxHeartbeats 1000000 in
theorem make_out (re im den : Int) (h : okB re im den = false) (w : World) :
    Calls Tryd.prog 29 #[.int .i64 re, .int .i64 im, .int .i64 den] w fun e w' => e = .returned (Rv 0 0 0 2) ∧ Below w.heap.size w w' := by
  have i0 := idx0 re im den
  have i1 := idx1 re im den
  have i2 := idx2 re im den
  have H : Hid (okB re im den = false) := Lib.hid h
  clear h
  go_enter Tryd.func29, Tryd.ntmps29
  go_wp2_with fail
  go_loop [9, 16] (fun _ i => ∃ k : Nat, k ≤ 3 ∧ i = .int .i64 k ∧ (1 ≤ k → Hid (inB re = true)) ∧ (2 ≤ k → Hid (inB im = true)) ∧ (3 ≤ k → Hid (inB den = true))) (fun _ i => 3 - (intOf i).toNat)
  case atStart => exact ⟨0, by omega, rfl, by omega, by omega, by omega⟩
  case round =>
    obtain ⟨k, hk, rfl, g1, g2, g3⟩ := hrel
    have G1 := Lib.hid g1
    have G2 := Lib.hid g2
    have G3 := Lib.hid g3
    clear g1 g2 g3
    have hk' : k = 0 ∨ k = 1 ∨ k = 2 ∨ k = 3 := by omega
    rcases hk' with rfl | rfl | rfl | rfl
    · by_cases c : -2000000000000000000 ≤ re ∧ re ≤ 2000000000000000000
      · have C : Hid (inB re = true) := Lib.hid (by simp [inB]; omega)
        obtain ⟨c1, c2⟩ := c
        go_wp2_with fail
        exact ⟨⟨1, by omega, rfl, fun _ => C, by omega, by omega⟩, by simp [intOf]⟩
      · have c' : re < -2000000000000000000 ∨ (-2000000000000000000 ≤ re ∧ 2000000000000000000 < re) := by omega
        clear c
        rcases c' with c1 | ⟨c1, c2⟩
        all_goals
          go_wp2_with fail
          exact bodyPost_ret (v := Rv 0 0 0 2) (by simp [results, Tryd.results29, go_sem]) rfl ⟨rfl, Bal (Below.refl _ _) _⟩
    · by_cases c : -2000000000000000000 ≤ im ∧ im ≤ 2000000000000000000
      · have C : Hid (inB im = true) := Lib.hid (by simp [inB]; omega)
        obtain ⟨c1, c2⟩ := c
        go_wp2_with fail
        exact ⟨⟨2, by omega, rfl, fun _ => G1.out (by omega), fun _ => C, by omega⟩, by simp [intOf]⟩
      · have c' : im < -2000000000000000000 ∨ (-2000000000000000000 ≤ im ∧ 2000000000000000000 < im) := by omega
        clear c
        rcases c' with c1 | ⟨c1, c2⟩
        all_goals
          go_wp2_with fail
          exact bodyPost_ret (v := Rv 0 0 0 2) (by simp [results, Tryd.results29, go_sem]) rfl ⟨rfl, Bal (Below.refl _ _) _⟩
    · by_cases c : -2000000000000000000 ≤ den ∧ den ≤ 2000000000000000000
      · have C : Hid (inB den = true) := Lib.hid (by simp [inB]; omega)
        obtain ⟨c1, c2⟩ := c
        go_wp2_with fail
        exact ⟨⟨3, by omega, rfl, fun _ => G1.out (by omega), fun _ => G2.out (by omega), fun _ => C⟩, by simp [intOf]⟩
      · have c' : den < -2000000000000000000 ∨ (-2000000000000000000 ≤ den ∧ 2000000000000000000 < den) := by omega
        clear c
        rcases c' with c1 | ⟨c1, c2⟩
        all_goals
          go_wp2_with fail
          exact bodyPost_ret (v := Rv 0 0 0 2) (by simp [results, Tryd.results29, go_sem]) rfl ⟨rfl, Bal (Below.refl _ _) _⟩
    · exfalso
      have hh := H.out
      unfold okB at hh
      rw [(G1.out (by omega)).out, (G2.out (by omega)).out, (G3.out (by omega)).out] at hh
      exact absurd hh (by decide)

end Go.Proofs.YtbbjclbpllfdeaaDoor
