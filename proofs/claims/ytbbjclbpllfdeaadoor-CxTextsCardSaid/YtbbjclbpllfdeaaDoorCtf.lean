/- Plain cases of layer 25's laws. -/
import Derived.Test.YtbbjclbpllfdeaaDoorCte
namespace Go.Proofs.YtbbjclbpllfdeaaDoor
open Cxm
set_option linter.unusedVariables false
theorem made_two {re im den : Int} (h : den ≠ 0) : (∃ x y z, made re im den = (x, y, z, 0)) ∨ made re im den = (0, 0, 0, 16) := by
  rcases made_err (re := re) (im := im) h with k | k
  · obtain ⟨⟨x, y, z, e⟩, hr⟩ : ∃ r, made re im den = r := ⟨_, rfl⟩
    rw [hr] at k
    simp only at k
    subst k
    exact .inl ⟨x, y, z, hr⟩
  · exact .inr k
section
variable {ar ai ad br bi bd : Int}
theorem sub_cases (ha : chkB ar ai ad = true) (hb : chkB br bi bd = true) : (∃ x y z, subS ar ai ad br bi bd = (x, y, z, 0) ∧ sumS x y z br bi bd = (ar, ai, ad, 0)) ∨ subS ar ai ad br bi bd = (0, 0, 0, 16) := by
  rw [sub_of ha hb]
  rcases made_two (re := ar * bd - br * ad) (im := ai * bd - bi * ad) (Int.mul_ne_zero (chk_ne ha) (chk_ne hb)) with ⟨x, y, z, h⟩ | h
  · exact .inl ⟨x, y, z, h, sub_back ha hb (by rw [sub_of ha hb]; exact h)⟩
  · exact .inr h
theorem mul_cases (ha : chkB ar ai ad = true) (hb : chkB br bi bd = true) : (∃ x y z, mulS ar ai ad br bi bd = (x, y, z, 0) ∧ chkB x y z = true) ∨ mulS ar ai ad br bi bd = (0, 0, 0, 16) := by
  rw [mul_of ha hb]
  rcases made_two (re := ar * br - ai * bi) (im := ar * bi + ai * br) (Int.mul_ne_zero (chk_ne ha) (chk_ne hb)) with ⟨x, y, z, h⟩ | h
  · exact .inl ⟨x, y, z, h, (made_ok h).2.1⟩
  · exact .inr h
theorem div_of (ha : chkB ar ai ad = true) (hb : chkB br bi bd = true) (hz : isZ br bi = false) : divS ar ai ad br bi bd = made ((ar * br + ai * bi) * bd) ((ai * br - ar * bi) * bd) ((br * br + bi * bi) * ad) := by
  unfold divS
  rw [ha, hb, if_neg (isZ_no.1 hz)]
  rfl
theorem div_cases (ha : chkB ar ai ad = true) (hb : chkB br bi bd = true) :
    (isZ br bi = true ∧ divS ar ai ad br bi bd = (0, 0, 0, 18)) ∨ (isZ br bi = false ∧ ((∃ x y z, divS ar ai ad br bi bd = (x, y, z, 0) ∧ mulS x y z br bi bd = (ar, ai, ad, 0)) ∨ divS ar ai ad br bi bd = (0, 0, 0, 16))) := by
  cases hz : isZ br bi
  · refine .inr ⟨rfl, ?_⟩
    have sp := sq_pos (isZ_no.1 hz)
    rw [div_of ha hb hz]
    rcases made_two (re := (ar * br + ai * bi) * bd) (im := (ai * br - ar * bi) * bd) (Int.mul_ne_zero (show br * br + bi * bi ≠ 0 by omega) (chk_ne ha)) with ⟨x, y, z, h⟩ | h
    · exact .inl ⟨x, y, z, h, div_back (by rw [div_of ha hb hz]; exact h)⟩
    · exact .inr h
  · refine .inl ⟨rfl, ?_⟩
    unfold divS
    rw [ha, hb, if_pos (isZ_iff.1 hz)]
    rfl
/- turns -/
theorem turn_of {q : Int} (ha : chkB ar ai ad = true) : turnS ar ai ad q = (tRe ar ai (qn q), tIm ar ai (qn q), ad, 0) := by unfold turnS; rw [if_pos ha]
structure TURN (ar ai ad q x y u v : Int) : Prop where
  t : turnS ar ai ad q = (x, y, ad, 0)
  b : turnS x y ad (-q) = (ar, ai, ad, 0)
  f : turnS ar ai ad (q + 4) = (x, y, ad, 0)
  o : turnS ar ai ad 1 = (u, v, ad, 0)
  m : mulS ar ai ad 0 1 1 = (u, v, ad, 0)
theorem turn_all {q : Int} (ha : chkB ar ai ad = true) : ∃ x y u v, TURN ar ai ad q x y u v :=
  ⟨_, _, _, _, turn_of ha, turn_back ha, by rw [turn_four, turn_of ha], turn_of ha, by rw [turn_mul ha, turn_of ha]⟩
/- norms -/
theorem norm_cases (ha : chkB ar ai ad = true) : (∃ x y, normS ar ai ad = (x, y, 0) ∧ 0 ≤ x ∧ x ≤ 1000000000000000000 ∧ 1 ≤ y ∧ y ≤ 1000000000000000000) ∨ normS ar ai ad = (0, 0, 16) := by
  obtain ⟨⟨x, y, e⟩, hr⟩ : ∃ r, normS ar ai ad = r := ⟨_, rfl⟩
  by_cases he : e = 0
  · subst he
    obtain ⟨_, k, h1, h2⟩ := norm_ok' hr
    refine .inl ⟨x, y, hr, h1, ?_, h2, ?_⟩
    · unfold normS at hr
      rw [if_pos ha] at hr
      split at hr
      · cases hr; assumption
      · cases hr
    · unfold normS at hr
      rw [if_pos ha] at hr
      split at hr
      · cases hr
        have b := chk_iff.1 ha
        have m := mul_bd9 (a := ad) (b := ad) (by omega) (by omega) (by omega) (by omega)
        have := tdiv_bd (ad * ad) (g2 (ar * ar + ai * ai) (ad * ad)) 1000000000000000000 (by omega)
        omega
      · cases hr
  · right
    rw [hr]
    unfold normS at hr
    rw [if_pos ha] at hr
    split at hr
    · cases hr; exact absurd rfl he
    · cases hr; rfl
theorem conj_of (ha : chkB ar ai ad = true) : conjS ar ai ad = (ar, -ai, ad, 0) := by unfold conjS; rw [if_pos ha]
end
end Go.Proofs.YtbbjclbpllfdeaaDoor
