/- Reduced numbers: the quotient is one alone. -/
import Derived.Test.YtbbjclbpllfdeaaDoorCxm
namespace Go.Proofs.YtbbjclbpllfdeaaDoor.Cxm
set_option linter.unusedVariables false

/- quotients: what divides, and the triple times the divisor -/
theorem tdiv_sg {x g : Int} (h : g ∣ x) : x.tdiv g * g = x := Int.tdiv_mul_cancel h
theorem g2_dvdl (a b : Int) : g2 a b ∣ a := by unfold g2; exact Int.gcd_dvd_left ..
theorem g2_dvdr (a b : Int) : g2 a b ∣ b := by unfold g2; exact Int.gcd_dvd_right ..
theorem sg_dvd (a b c : Int) : sg a b c ∣ a ∧ sg a b c ∣ b ∧ sg a b c ∣ c := by
  have h : g3 a b c ∣ a ∧ g3 a b c ∣ b ∧ g3 a b c ∣ c := ⟨Int.dvd_trans (g2_dvdl _ _) (g2_dvdl _ _), Int.dvd_trans (g2_dvdl _ _) (g2_dvdr _ _), g2_dvdr _ _⟩
  unfold sg; split
  · exact ⟨Int.neg_dvd.2 h.1, Int.neg_dvd.2 h.2.1, Int.neg_dvd.2 h.2.2⟩
  · exact h
/- a reduced triple -/
structure Red (r i d : Int) : Prop where
  pos : 1 ≤ d
  one : g3 r i d = 1
/- divides all three, hence is one -/
theorem dvd_g3 {k a b c : Int} (h1 : k ∣ a) (h2 : k ∣ b) (h3 : k ∣ c) : k ∣ g3 a b c := by
  unfold g3 g2
  exact Int.dvd_coe_gcd (Int.dvd_coe_gcd h1 h2) h3
theorem red_dvd {r i d x y z : Int} (h : Red r i d) (hr : r * z = x * d) (hi : i * z = y * d) : d ∣ z := by
  have e : g3 (r * z) (i * z) (d * z) = z.natAbs := by
    have := g3_nat (r * z) (i * z) (d * z)
    have := g3_nonneg (r * z) (i * z) (d * z)
    have k := g3_nat r i d
    rw [h.one] at k
    simp only [Int.natAbs_mul, Nat.gcd_mul_right] at *
    rw [← k, show (1 : Int).natAbs = 1 from rfl, Nat.one_mul] at this
    omega
  have : d ∣ (z.natAbs : Int) := by
    rw [← e]
    exact dvd_g3 (by rw [hr]; exact Int.dvd_mul_left ..) (by rw [hi]; exact Int.dvd_mul_left ..) (Int.dvd_mul_right ..)
  exact Int.dvd_natAbs.1 this
theorem red_uniq {r i d r' i' d' : Int} (h : Red r i d) (h' : Red r' i' d') (hr : r * d' = r' * d) (hi : i * d' = i' * d) : r = r' ∧ i = i' ∧ d = d' := by
  have d1 := red_dvd h hr hi
  have d2 := red_dvd h' hr.symm hi.symm
  have p := h.pos
  have p' := h'.pos
  have e : d = d' := by
    have := Int.le_of_dvd (by omega) d1
    have := Int.le_of_dvd (by omega) d2
    omega
  subst e
  exact ⟨Int.eq_of_mul_eq_mul_right (by omega) hr, Int.eq_of_mul_eq_mul_right (by omega) hi, rfl⟩
structure MD (re im den r i d : Int) : Prop where
  red : Red r i d
  er : r * den = re * d
  ei : i * den = im * d
  md : made re im den = if fitsB r && (fitsB i && fitsB d) then (r, i, d, 0) else (0, 0, 0, 16)
theorem made_md {re im den : Int} (h : den ≠ 0) : ∃ r i d, MD re im den r i d := by
  obtain ⟨a, b, c⟩ := sg_dvd re im den
  have ea := tdiv_sg a
  have eb := tdiv_sg b
  have ec := tdiv_sg c
  refine ⟨re.tdiv (sg re im den), im.tdiv (sg re im den), den.tdiv (sg re im den), ⟨den_pos h, reduced h⟩, ?_, ?_, ?_⟩
  · generalize re.tdiv (sg re im den) = x at *
    generalize den.tdiv (sg re im den) = z at *
    generalize sg re im den = s at *
    subst ea
    rw [← ec]; grind
  · generalize im.tdiv (sg re im den) = x at *
    generalize den.tdiv (sg re im den) = z at *
    generalize sg re im den = s at *
    subst eb
    rw [← ec]; grind
  · unfold made; rw [if_neg h]
theorem cross {re im den re' im' den' : Int} (h : den ≠ 0) (h' : den' ≠ 0) (hr : re * den' = re' * den) (hi : im * den' = im' * den) : made re im den = made re' im' den' := by
  obtain ⟨r, i, d, m⟩ := made_md (re := re) (im := im) h
  obtain ⟨r', i', d', m'⟩ := made_md (re := re') (im := im') h'
  have k := Int.mul_ne_zero h h'
  have a := m.er
  have a' := m'.er
  have b := m.ei
  have b' := m'.ei
  obtain ⟨rfl, rfl, rfl⟩ := red_uniq m.red m'.red (Int.eq_of_mul_eq_mul_right k (by grind)) (Int.eq_of_mul_eq_mul_right k (by grind))
  rw [m.md, m'.md]
/- what is valid is its own reduced number -/
theorem made_valid {r i d : Int} (h : chkB r i d = true) : made r i d = (r, i, d, 0) := by
  obtain ⟨h1, h2, h3, h4⟩ := chk_iff.1 h
  rw [made_of_reduced h1.1 h4, if_pos]
  simp [fitsB]; omega
theorem made_ok {re im den r i d : Int} (h : made re im den = (r, i, d, 0)) : den ≠ 0 ∧ chkB r i d = true ∧ r * den = re * d ∧ i * den = im * d := by
  by_cases h0 : den = 0
  · unfold made at h; rw [if_pos h0] at h; cases h
  obtain ⟨r', i', d', m⟩ := made_md (re := re) (im := im) h0
  have e := m.md
  rw [h] at e
  split at e
  · rename_i f
    cases e
    refine ⟨h0, ?_, m.er, m.ei⟩
    have p := m.red.pos
    have o := m.red.one
    simp [fitsB] at f
    rw [chk_iff]
    omega
  · cases e
theorem made_err {re im den : Int} (h : den ≠ 0) : (made re im den).2.2.2 = 0 ∨ made re im den = (0, 0, 0, 16) := by
  obtain ⟨r, i, d, m⟩ := made_md (re := re) (im := im) h
  rw [m.md]
  split
  · exact .inl rfl
  · exact .inr rfl
end Go.Proofs.YtbbjclbpllfdeaaDoor.Cxm
