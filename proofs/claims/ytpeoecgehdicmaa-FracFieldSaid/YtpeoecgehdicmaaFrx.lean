/- Plain laws of layer 1: what Near gives is valid and best. -/
import Derived.Test.YtpeoecgehdicmaaFru
namespace Go.Proofs.Ytpeoecgehdicmaa
set_option linter.unusedVariables false
theorem fp_bound {N D n p q p' q' : Int} (hn : n < D) (h : Farey.FP N D n p q p' q') (n1 : -1000000000000000000 ≤ N) (n2 : N ≤ 1000000000000000000) :
    (-1000000000000000000 ≤ p ∧ p ≤ 1000000000000000000) ∧ (-1000000000000000000 ≤ p' ∧ p' ≤ 1000000000000000000) := by
  have lo := h.lo
  have hi := h.hi
  have q1 := h.q1
  have r1 := h.r1
  have q2 := h.qn
  have r2 := h.rn
  have det := h.det
  have s : (p' * D - N * q') * q + (N * q - p * D) * q' = D := by grind
  have a1 : p' * D - N * q' ≤ (p' * D - N * q') * q := Farey.le_mul_one (by omega) q1
  have a2 : N * q - p * D ≤ (N * q - p * D) * q' := Farey.le_mul_one (by omega) r1
  have b1 := Int.mul_nonneg (show 0 ≤ p' * D - N * q' by omega) (show 0 ≤ q by omega)
  have b2 := Int.mul_nonneg (show 0 ≤ N * q - p * D by omega) (show 0 ≤ q' by omega)
  have D0 : 0 < D := by omega
  have key : ∀ M : Int, 0 ≤ M → M * q ≤ M * D - M ∧ M * q' ≤ M * D - M := fun M hM => by
    have := Int.mul_le_mul_of_nonneg_left (show q ≤ D - 1 by omega) hM
    have := Int.mul_le_mul_of_nonneg_left (show q' ≤ D - 1 by omega) hM
    rw [Int.mul_sub, Int.mul_one] at *
    omega
  have up : ∀ z M : Int, z * D < M * D + D → z ≤ M := fun z M hz => by
    have : z * D < (M + 1) * D := by rw [Int.add_mul, Int.one_mul]; exact hz
    have := Int.lt_of_mul_lt_mul_right this (by omega)
    omega
  have dn : ∀ z M : Int, M * D - D < z * D → M ≤ z := fun z M hz => by
    have : (M - 1) * D < z * D := by rw [Int.sub_mul, Int.one_mul]; exact hz
    have := Int.lt_of_mul_lt_mul_right this (by omega)
    omega
  have zz : ∀ M : Int, 0 ≤ M → 0 ≤ M * q ∧ 0 ≤ M * q' := fun M hM => ⟨Int.mul_nonneg hM (by omega), Int.mul_nonneg hM (by omega)⟩
  by_cases c : 1 ≤ N
  · have k := key N (by omega)
    have z := zz N (by omega)
    have u1 := up p N (by omega)
    have u2 := up p' N (by omega)
    have l1 := dn p (-1) (by omega)
    have l2 := dn p' 0 (by omega)
    omega
  · by_cases c' : N ≤ -1
    · have k := key (-N) (by omega)
      have z := zz (-N) (by omega)
      rw [Int.neg_mul, Int.neg_mul, Int.neg_mul] at k
      rw [Int.neg_mul, Int.neg_mul] at z
      have u1 := up p 0 (by omega)
      have u2 := up p' 1 (by omega)
      have l1 := dn p N (by omega)
      have l2 := dn p' N (by omega)
      omega
    · have : N = 0 := by omega
      subst this
      simp only [Int.zero_mul] at *
      have u1 := up p 0 (by omega)
      have u2 := up p' 1 (by omega)
      have l1 := dn p (-1) (by omega)
      have l2 := dn p' 0 (by omega)
      omega
theorem cop_bez {x y a b : Int} (h : a * x + b * y = 1) : Nat.gcd x.natAbs y.natAbs = 1 := by
  have d1 : (Nat.gcd x.natAbs y.natAbs : Int) ∣ x := Int.ofNat_dvd_left.2 (Nat.gcd_dvd_left _ _)
  have d2 : (Nat.gcd x.natAbs y.natAbs : Int) ∣ y := Int.ofNat_dvd_left.2 (Nat.gcd_dvd_right _ _)
  have d3 : (Nat.gcd x.natAbs y.natAbs : Int) ∣ 1 := by rw [← h]; exact Int.dvd_add (Int.dvd_mul_of_dvd_right d1) (Int.dvd_mul_of_dvd_right d2)
  have := Int.natAbs_dvd_natAbs.2 d3
  exact Nat.eq_one_of_dvd_one (by simpa using this)
def Best (N D m x y : Int) : Prop := ∀ c d : Int, 1 ≤ d → d ≤ m → ((N * y - x * D).natAbs : Int) * d ≤ ((N * d - c * D).natAbs : Int) * y ∧ (((N * y - x * D).natAbs : Int) * d = ((N * d - c * D).natAbs : Int) * y → x * d ≤ c * y)
theorem near_ok {N D m x y e : Int} (v : VF N D) (h1 : 1 ≤ m) (h2 : m ≤ 1000000000000000000) (h : NearR N D m (x, y, e)) : e = 0 ∧ VF x y ∧ y ≤ m ∧ Best N D m x y := by
  have d1 := v.d1
  rcases h with ⟨k1, _⟩ | ⟨_, k2, _⟩ | ⟨k1, _, _, k4, k5⟩ | ⟨k1, _, _, k4, u, t, k5, k6⟩
  · exact absurd v.err k1
  · omega
  · simp only [Prod.mk.injEq] at k5
    obtain ⟨rfl, rfl, rfl⟩ := k5
    refine ⟨rfl, v, k4, fun c d hd hm => ?_⟩
    simp only [Int.sub_self, Int.natAbs_zero, Int.natCast_zero, Int.zero_mul] at *
    refine ⟨Int.mul_nonneg (by omega) (by omega), fun he => ?_⟩
    rcases Int.mul_eq_zero.1 he.symm with h0 | h0
    · omega
    · omega
  · simp only [Prod.mk.injEq] at k6
    obtain ⟨rfl, rfl, rfl⟩ := k6
    obtain ⟨f1, f2, a, b, f3⟩ := k5.facts
    refine ⟨rfl, ?_, f2, fun c d hd hm => k5.best (by omega) hd hm⟩
    have g := cop_bez f3
    obtain ⟨p, q, p', q', hf, hc⟩ := k5
    obtain ⟨⟨b1, b2⟩, b3, b4⟩ := fp_bound k4 hf v.n1 v.n2
    rcases hc with ⟨_, rfl, rfl⟩ | ⟨_, rfl, rfl⟩
    · exact ⟨f1, by omega, b1, b2, g⟩
    · exact ⟨f1, by omega, b3, b4, g⟩
theorem near_own {N D x y e : Int} (v : VF N D) (h : NearR N D D (x, y, e)) : x = N ∧ y = D ∧ e = 0 := by
  have d1 := v.d1
  have d2 := v.d2
  have u := h.unique (.inr (.inr (.inl ⟨v.err, d1, d2, Int.le_refl _, rfl⟩)))
  simp only [Prod.mk.injEq] at u
  exact u
/- the difference of two valid fractions -/
theorem sub_ok {an ad bn bd n d e : Int} (va : VF an ad) (vb : VF bn bd) (h : subR an ad bn bd = (n, d, e)) (he : e = 0) : VF n d ∧ n * (ad * bd) = (an * bd - bn * ad) * d := by
  have d1 := va.d1
  have d3 := vb.d1
  unfold subR at h
  rw [if_pos (va.both vb), addF_red va vb.neg] at h
  obtain ⟨h1, h2⟩ := redF_val (Nat.mul_pos (by omega) (by omega)) h he
  refine ⟨h1, ?_⟩
  rw [Int.natCast_mul, Int.natAbs_of_nonneg (by omega), Int.natAbs_of_nonneg (by omega), Int.neg_mul, ← Int.sub_eq_add_neg] at h2
  exact h2
end Go.Proofs.Ytpeoecgehdicmaa
