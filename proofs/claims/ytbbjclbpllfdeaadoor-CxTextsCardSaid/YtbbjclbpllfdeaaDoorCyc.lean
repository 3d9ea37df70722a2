/- Plain laws: conjugates and norms. -/
import Derived.Test.YtbbjclbpllfdeaaDoorCyb
namespace Go.Proofs.YtbbjclbpllfdeaaDoor
set_option linter.unusedVariables false
open Cxm
/- conjugates -/
theorem made_conj (re im den : Int) : made re (-im) den = ((made re im den).1, -(made re im den).2.1, (made re im den).2.2.1, (made re im den).2.2.2) := by
  have e : sg re (-im) den = sg re im den := by unfold sg g3; rw [g2_neg']
  have f : ∀ x, fitsB (-x) = fitsB x := fun x => by rw [Bool.eq_iff_iff]; simp [fitsB]; omega
  unfold made
  rw [e, Int.neg_tdiv, f]
  by_cases h : den = 0
  · simp [h]
  · simp only [if_neg h]
    split <;> simp
theorem chk_conj (r i d : Int) : chkB r (-i) d = chkB r i d := by
  unfold chkB g3
  rw [g2_neg', Bool.eq_iff_iff]
  simp [fitsB]
  omega
theorem mul_conj (ar ai ad br bi bd : Int) : mulS ar (-ai) ad br (-bi) bd = ((mulS ar ai ad br bi bd).1, -(mulS ar ai ad br bi bd).2.1, (mulS ar ai ad br bi bd).2.2.1, (mulS ar ai ad br bi bd).2.2.2) := by
  unfold mulS
  rw [chk_conj, chk_conj]
  split
  · rw [show ar * -bi + -ai * br = -(ar * bi + ai * br) by grind, show ar * br - -ai * -bi = ar * br - ai * bi by grind, made_conj]
  · rfl
/- norms -/
def normS (re im den : Int) : Int × Int × Int :=
  if chkB re im den then
    (if (re * re + im * im).tdiv (g2 (re * re + im * im) (den * den)) ≤ 1000000000000000000 then ((re * re + im * im).tdiv (g2 (re * re + im * im) (den * den)), (den * den).tdiv (g2 (re * re + im * im) (den * den)), 0) else (0, 0, 16))
  else (0, 0, 8)
theorem g2_zero' (a : Int) : g2 a 0 = a.natAbs := g2_zero a
theorem norm_mul {ar ai ad x y z : Int} (ha : chkB ar ai ad = true) (h : mulS ar ai ad ar (-ai) ad = (x, y, z, 0)) : normS ar ai ad = (x, z, 0) ∧ y = 0 := by
  have hc : chkB ar (-ai) ad = true := by rw [chk_conj]; exact ha
  rw [mul_of ha hc, show ar * ar - ai * -ai = ar * ar + ai * ai by grind, show ar * -ai + ai * ar = 0 by grind] at h
  have nd := chk_ne ha
  have dd : 0 < ad * ad := by have := sq_pos (a := ad) (b := 0) (by simp [nd]); omega
  have nn : 0 ≤ ar * ar + ai * ai := by have := sq_nonneg ar; have := sq_nonneg ai; omega
  have es : sg (ar * ar + ai * ai) 0 (ad * ad) = g2 (ar * ar + ai * ai) (ad * ad) := by
    unfold sg g3
    rw [if_neg (by omega), g2_zero]
    congr 1
    omega
  unfold normS
  rw [if_pos ha]
  unfold made at h
  rw [if_neg (by omega), es, Int.zero_tdiv] at h
  generalize (ar * ar + ai * ai).tdiv (g2 (ar * ar + ai * ai) (ad * ad)) = X at *
  generalize (ad * ad).tdiv (g2 (ar * ar + ai * ai) (ad * ad)) = Z at *
  split at h
  · rename_i f
    cases h
    simp [fitsB] at f
    rw [if_pos (by omega)]
    exact ⟨rfl, rfl⟩
  · cases h
theorem norm_ok' {re im den x y : Int} (h : normS re im den = (x, y, 0)) : chkB re im den = true ∧ x * (den * den) = (re * re + im * im) * y ∧ 0 ≤ x ∧ 1 ≤ y := by
  unfold normS at h
  by_cases hc : chkB re im den = true
  rotate_left
  · rw [if_neg hc] at h; cases h
  rw [if_pos hc] at h
  have nd := chk_ne hc
  have dd : 0 < den * den := by have := sq_pos (a := den) (b := 0) (by simp [nd]); omega
  have nn : 0 ≤ re * re + im * im := by have := sq_nonneg re; have := sq_nonneg im; omega
  have d1 := g2_dvdl (re * re + im * im) (den * den)
  have d2 := g2_dvdr (re * re + im * im) (den * den)
  have gp := g2_pos (a := re * re + im * im) (b := den * den) (.inr (by omega))
  have dp := tdiv_pos (a := den * den) (by omega) gp (g2_dvd_right _ _)
  have np := Int.tdiv_nonneg nn (show 0 ≤ g2 (re * re + im * im) (den * den) by omega)
  have t1 := tdiv_sg d1
  have t2 := tdiv_sg d2
  generalize g2 (re * re + im * im) (den * den) = g at *
  generalize (re * re + im * im).tdiv g = X at *
  generalize (den * den).tdiv g = Y at *
  split at h
  · cases h
    refine ⟨hc, ?_, np, dp⟩
    rw [← t1, ← t2]
    clear t1 t2 d1 d2
    grind
  · cases h
theorem norm_prod {ar ai ad br bi bd x y z n1 d1 n2 d2 n3 d3 : Int} (hp : mulS ar ai ad br bi bd = (x, y, z, 0)) (h1 : normS ar ai ad = (n1, d1, 0)) (h2 : normS br bi bd = (n2, d2, 0)) (h3 : normS x y z = (n3, d3, 0)) :
    n1 * n2 * d3 = d1 * d2 * n3 := by
  obtain ⟨c1, e1, _, _⟩ := norm_ok' h1
  obtain ⟨c2, e2, _, _⟩ := norm_ok' h2
  obtain ⟨c3, e3, _, _⟩ := norm_ok' h3
  rw [mul_of c1 c2] at hp
  obtain ⟨_, _, f1, f2⟩ := made_ok hp
  have na := chk_ne c1
  have nb := chk_ne c2
  have nz := chk_ne c3
  have key : (x * x + y * y) * ((ad * bd) * (ad * bd)) = (ar * ar + ai * ai) * (br * br + bi * bi) * (z * z) := by
    rw [show (x * x + y * y) * ((ad * bd) * (ad * bd)) = (x * (ad * bd)) * (x * (ad * bd)) + (y * (ad * bd)) * (y * (ad * bd)) by clear f1 f2 e1 e2 e3 hp h1 h2 h3; grind, f1, f2]
    clear f1 f2 e1 e2 e3 hp h1 h2 h3
    grind
  clear f1 f2 hp h1 h2 h3
  refine cancel (k := (ad * ad) * ((bd * bd) * (z * z))) (Int.mul_ne_zero (Int.mul_ne_zero na na) (Int.mul_ne_zero (Int.mul_ne_zero nb nb) (Int.mul_ne_zero nz nz))) ?_
  have l : (ad * ad) * ((bd * bd) * (z * z)) * (n1 * n2 * d3) = (n1 * (ad * ad)) * (n2 * (bd * bd)) * (z * z * d3) := by clear key e1 e2 e3; grind
  have r : (ad * ad) * ((bd * bd) * (z * z)) * (d1 * d2 * n3) = d1 * d2 * (n3 * (z * z)) * ((ad * bd) * (ad * bd)) := by clear key e1 e2 e3 l; grind
  rw [l, r, e1, e2, e3]
  have s : d1 * d2 * ((x * x + y * y) * d3) * ((ad * bd) * (ad * bd)) = d1 * d2 * d3 * ((x * x + y * y) * ((ad * bd) * (ad * bd))) := by clear key e1 e2 e3 l r; grind
  rw [s, key]
  clear key e1 e2 e3 l r s
  grind
end Go.Proofs.YtbbjclbpllfdeaaDoor
