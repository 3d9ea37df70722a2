/- Plain laws: rays, their order, and turns. -/
import Derived.Test.YtbbjclbpllfdeaaDoorCyc
import Derived.Test.YtbbjclbpllfdeaaDoorCxn
import Derived.Test.YtbbjclbpllfdeaaDoorCxp
namespace Go.Proofs.YtbbjclbpllfdeaaDoor
set_option linter.unusedVariables false
open Cxm
/- rays -/
def rayS (re im den : Int) : Int × Int × Int × Int :=
  if chkB re im den then (if re = 0 ∧ im = 0 then (0, 0, 0, 18) else (re.tdiv (g2 re im), im.tdiv (g2 re im), 1, 0)) else (0, 0, 0, 8)
/- the ray of a number that is not 0 -/
structure RAY (a b x y g : Int) : Prop where
  gp : 1 ≤ g
  ea : a = x * g
  eb : b = y * g
  co : Nat.gcd x.natAbs y.natAbs = 1
theorem ray_of {a b : Int} (h : ¬ (a = 0 ∧ b = 0)) : RAY a b (a.tdiv (g2 a b)) (b.tdiv (g2 a b)) (g2 a b) := by
  have hz : a ≠ 0 ∨ b ≠ 0 := by
    by_cases k : a = 0
    · exact .inr (fun k' => h ⟨k, k'⟩)
    · exact .inl k
  have gp := g2_pos hz
  refine ⟨gp, (tdiv_sg (g2_dvdl a b)).symm, (tdiv_sg (g2_dvdr a b)).symm, ?_⟩
  rw [tdiv_nat, tdiv_nat, g2_nat]
  refine gcd_self_div ?_
  have := g2_nat a b
  omega
theorem RAY.nz {a b x y g : Int} (r : RAY a b x y g) : ¬ (x = 0 ∧ y = 0) := by
  rintro ⟨rfl, rfl⟩
  exact absurd r.co (by decide)
theorem sum_sq {x y : Int} (h : ¬ (x = 0 ∧ y = 0)) : 0 < x * x + y * y := by have := sq_pos h; omega
theorem cop_dvd {x y s t : Int} (h : Nat.gcd x.natAbs y.natAbs = 1) (e : x * t = y * s) : x ∣ s := by
  have : x.natAbs ∣ y.natAbs * s.natAbs := by
    rw [← Int.natAbs_mul, ← e, Int.natAbs_mul]
    exact Nat.dvd_mul_right ..
  exact Int.natAbs_dvd_natAbs.1 (Nat.Coprime.dvd_of_dvd_mul_left h this)
theorem cop_same {x y s t : Int} (h : Nat.gcd x.natAbs y.natAbs = 1) (h' : Nat.gcd s.natAbs t.natAbs = 1) (e : x * t = y * s) (d : 0 < x * s + y * t) : x = s ∧ y = t := by
  have d1 : x.natAbs = s.natAbs := Nat.dvd_antisymm (Int.natAbs_dvd_natAbs.2 (cop_dvd h e)) (Int.natAbs_dvd_natAbs.2 (cop_dvd (s := x) (t := y) h' (by rw [Int.mul_comm s, Int.mul_comm t, e])))
  have d2 : y.natAbs = t.natAbs := Nat.dvd_antisymm (Int.natAbs_dvd_natAbs.2 (cop_dvd (by rw [Nat.gcd_comm]; exact h) e.symm)) (Int.natAbs_dvd_natAbs.2 (cop_dvd (s := y) (t := x) (by rw [Nat.gcd_comm]; exact h') (by rw [Int.mul_comm t, Int.mul_comm s, e])))
  have sx := sq_nonneg x
  have sy := sq_nonneg y
  rcases Int.natAbs_eq_natAbs_iff.1 d1 with rfl | rfl
  · rcases Int.natAbs_eq_natAbs_iff.1 d2 with rfl | rfl
    · exact ⟨rfl, rfl⟩
    · -- x t = y x with t = -y
      have k : x * t = 0 := by grind
      have : x = 0 ∨ t = 0 := Int.mul_eq_zero.1 k
      rcases this with rfl | rfl
      · have : -t * t = -(t * t) := Int.neg_mul t t
        have := sq_nonneg t
        omega
      · exact ⟨rfl, rfl⟩
  · rcases Int.natAbs_eq_natAbs_iff.1 d2 with rfl | rfl
    · have k : s * y = 0 := by grind
      rcases Int.mul_eq_zero.1 k with rfl | rfl
      · exact ⟨rfl, rfl⟩
      · have : -s * s = -(s * s) := Int.neg_mul s s
        have := sq_nonneg s
        omega
    · have : -s * s = -(s * s) := Int.neg_mul s s
      have : -t * t = -(t * t) := Int.neg_mul t t
      have := sq_nonneg s
      have := sq_nonneg t
      omega
theorem mul_pos'' {a b : Int} (ha : 0 < a) (hb : 0 < b) : 0 < a * b := Int.mul_pos ha hb
theorem pos_of_mul {a k : Int} (hk : 0 < k) (h : 0 < a * k) : 0 < a := by
  rcases Int.lt_or_le 0 a with h' | h'
  · exact h'
  · exact absurd h (by have := Int.mul_nonpos_of_nonpos_of_nonneg h' (show 0 ≤ k by omega); omega)
theorem ray_iff {a b x y g c d s t k : Int} (r : RAY a b x y g) (r' : RAY c d s t k) : (x = s ∧ y = t) ↔ (a * d = b * c ∧ 0 < a * c + b * d) := by
  have gp := r.gp
  have kp := r'.gp
  have gk : 0 < g * k := mul_pos'' (by omega) (by omega)
  have ec : a * d = x * t * (g * k) := by rw [r.ea, r'.eb]; grind
  have ed : b * c = y * s * (g * k) := by rw [r.eb, r'.ea]; grind
  have ee : a * c + b * d = (x * s + y * t) * (g * k) := by rw [r.ea, r'.ea, r.eb, r'.eb]; grind
  rw [ec, ed, ee]
  constructor
  · rintro ⟨rfl, rfl⟩
    exact ⟨by rw [Int.mul_comm x y], mul_pos'' (sum_sq r.nz) gk⟩
  · rintro ⟨h1, h2⟩
    exact cop_same r.co r'.co (Int.eq_of_mul_eq_mul_right (by omega) h1) (pos_of_mul gk h2)
/- the same ray by factors -/
theorem ray_scale {a b x y g c d s t k K Z : Int} (r : RAY a b x y g) (r' : RAY c d s t k) (hK : 0 < K) (hZ : 0 < Z) (e1 : a * K = c * Z) (e2 : b * K = d * Z) : x = s ∧ y = t := by
  rw [ray_iff r r']
  constructor
  · refine cancel (k := K * Z) (Int.mul_ne_zero (by omega) (by omega)) ?_
    have : K * Z * (a * d) = (a * K) * (d * Z) := by clear e1 e2; grind
    rw [this, e1, ← e2]; clear this e1 e2; grind
  · refine pos_of_mul (k := K) hK ?_
    have : (a * c + b * d) * K = (c * c + d * d) * Z := by
      have : (a * c + b * d) * K = (a * K) * c + (b * K) * d := by clear e1 e2; grind
      rw [this, e1, e2]; clear this e1 e2; grind
    rw [this]
    refine mul_pos'' ?_ hZ
    refine sum_sq ?_
    rintro ⟨rfl, rfl⟩
    have h1 := r'.ea
    have h2 := r'.eb
    have kp := r'.gp
    rcases Int.mul_eq_zero.1 h1.symm with h | h
    · rcases Int.mul_eq_zero.1 h2.symm with h' | h'
      · exact r'.nz ⟨h, h'⟩
      · omega
    · omega
/- order of the rays -/
theorem up_scale {a b x y g : Int} (hg : 1 ≤ g) (ea : a = x * g) (eb : b = y * g) : upB a b = upB x y := by
  rw [Bool.eq_iff_iff, up_iff, up_iff]
  have s : ∀ z : Int, (0 < z * g ↔ 0 < z) := fun z => ⟨fun h => pos_of_mul (by omega) h, fun h => mul_pos'' h (by omega)⟩
  have e : ∀ z : Int, (z * g = 0 ↔ z = 0) := fun z => ⟨fun h => by rcases Int.mul_eq_zero.1 h with h | h <;> omega, fun h => by rw [h, Int.zero_mul]⟩
  rw [ea, eb, s, s, e]
theorem ord_ray {a b x y g c d s t k : Int} (r : RAY a b x y g) (r' : RAY c d s t k) : ordP a b c d = ordP x y s t := by
  have gp := r.gp
  have kp := r'.gp
  have gk : 0 < g * k := mul_pos'' (by omega) (by omega)
  have e : a * d - b * c = (x * t - y * s) * (g * k) := by rw [r.ea, r'.eb, r.eb, r'.ea]; grind
  have sp : 0 < a * d - b * c ↔ 0 < x * t - y * s := by rw [e]; exact ⟨fun h => pos_of_mul gk h, fun h => mul_pos'' h gk⟩
  have sn : a * d - b * c < 0 ↔ x * t - y * s < 0 := by
    have h1 : 0 < -(a * d - b * c) ↔ 0 < -(x * t - y * s) := by
      rw [e, ← Int.neg_mul]; exact ⟨fun h => pos_of_mul gk h, fun h => mul_pos'' h gk⟩
    omega
  unfold ordP
  rw [up_scale r.gp r.ea r.eb, up_scale r'.gp r'.ea r'.eb]
  simp only [sp, sn]
theorem ord_anti (a b c d : Int) : ordP a b c d = -(ordP c d a b) := by
  unfold ordP
  have e : a * d - b * c = -(c * b - d * a) := by grind
  rw [e]
  cases h1 : upB a b <;> cases h2 : upB c d <;> simp
  all_goals (split <;> (try split) <;> omega)
theorem up_neg {a b : Int} (h : ¬ (a = 0 ∧ b = 0)) (hu : upB a b = false) : upB (-a) (-b) = true := by
  rw [up_iff]
  have : ¬ (upB a b = true) := by rw [hu]; simp
  rw [up_iff] at this
  omega
theorem up_dot {a b c d : Int} (h1 : upB a b = true) (h2 : upB c d = true) (e : a * d = b * c) : 0 < a * c + b * d := by
  rw [up_iff] at h1 h2
  rcases h1 with h1 | ⟨rfl, h1⟩
  · rcases h2 with h2 | ⟨rfl, h2⟩
    · refine pos_of_mul (k := d) h2 ?_
      have : (a * c + b * d) * d = b * (c * c + d * d) := by
        have : (a * c + b * d) * d = (a * d) * c + b * (d * d) := by clear e; grind
        rw [this, e]; clear this e; grind
      rw [this]
      exact mul_pos'' h1 (sum_sq (by omega))
    · have := mul_pos'' h1 h2
      omega
  · rw [Int.zero_mul] at e
    have hd : d = 0 := by rcases Int.mul_eq_zero.1 e with h | h <;> omega
    subst hd
    have : 0 < c := by omega
    have := mul_pos'' h1 this
    omega
theorem dot_up {a b c d : Int} (h1 : upB a b = true) (e : a * d = b * c) (p : 0 < a * c + b * d) : upB c d = true := by
  rw [up_iff] at h1 ⊢
  rcases h1 with h1 | ⟨rfl, h1⟩
  · left
    refine Int.lt_of_not_ge fun hd => ?_
    -- b * (a c + b d) = (a a + b b) d <= 0
    have k : b * (a * c + b * d) = (a * a + b * b) * d := by
      have : b * (a * c + b * d) = a * (b * c) + b * b * d := by clear e; grind
      rw [this, ← e]; clear this e; grind
    have p1 := mul_pos'' h1 p
    rw [k] at p1
    have := Int.mul_nonpos_of_nonneg_of_nonpos (show 0 ≤ a * a + b * b by have := sq_nonneg a; have := sq_nonneg b; omega) hd
    omega
  · rw [Int.zero_mul] at e
    have hd : d = 0 := by rcases Int.mul_eq_zero.1 e with h | h <;> omega
    subst hd
    refine .inr ⟨rfl, ?_⟩
    rw [Int.zero_mul, Int.add_zero] at p
    exact pos_of_mul h1 (by rw [Int.mul_comm]; exact p)
theorem up_same {a b c d : Int} (ha : ¬ (a = 0 ∧ b = 0)) (hc : ¬ (c = 0 ∧ d = 0)) (e : a * d = b * c) : upB a b = upB c d ↔ 0 < a * c + b * d := by
  have en : ∀ x y : Int, -x * -y = x * y := fun x y => by grind
  cases h1 : upB a b
  · cases h2 : upB c d
    · simp only [true_iff]
      have := up_dot (up_neg ha h1) (up_neg hc h2) (by rw [en, en]; exact e)
      rwa [en, en] at this
    · simp only [Bool.false_eq_true, false_iff]
      intro p
      have := dot_up (a := c) (b := d) (c := a) (d := b) h2 (by rw [Int.mul_comm c, Int.mul_comm d]; exact e.symm) (by rw [Int.mul_comm c, Int.mul_comm d]; exact p)
      rw [h1] at this; cases this
  · cases h2 : upB c d
    · simp only [Bool.true_eq_false, false_iff]
      intro p
      have := dot_up h1 e p
      rw [h2] at this; cases this
    · simp only [true_iff]
      exact up_dot h1 h2 e
theorem ord_zero {a b c d : Int} (ha : ¬ (a = 0 ∧ b = 0)) (hc : ¬ (c = 0 ∧ d = 0)) : ordP a b c d = 0 ↔ (a * d = b * c ∧ 0 < a * c + b * d) := by
  constructor
  · intro h
    unfold ordP at h
    by_cases hu : upB a b = upB c d
    · rw [hu] at h
      simp only [bne_self_eq_false, Bool.false_eq_true, if_false] at h
      have e : a * d = b * c := by
        by_cases p : 0 < a * d - b * c
        · rw [if_pos p] at h; omega
        · rw [if_neg p] at h
          by_cases q : a * d - b * c < 0
          · rw [if_pos q] at h; omega
          · omega
      exact ⟨e, (up_same ha hc e).1 hu⟩
    · have : (upB a b != upB c d) = true := by rw [bne_iff_ne]; exact hu
      rw [if_pos this] at h
      split at h <;> omega
  · rintro ⟨e, p⟩
    have hu := (up_same ha hc e).2 p
    unfold ordP
    rw [hu]
    simp only [bne_self_eq_false, Bool.false_eq_true, if_false]
    rw [if_neg (by omega), if_neg (by omega)]
theorem cross_up {a b c d x y : Int} (h1 : upB a b = true) (h2 : upB c d = true) (h3 : upB x y = true) (k1 : a * d - b * c ≤ 0) (k2 : c * y - d * x ≤ 0) : a * y - b * x ≤ 0 := by
  rw [up_iff] at h1 h2 h3
  rcases h2 with h2 | ⟨rfl, h2⟩
  · have e : (a * y - b * x) * d = y * (a * d - b * c) + b * (c * y - d * x) := by clear k1 k2; grind
    have p1 := Int.mul_nonpos_of_nonneg_of_nonpos (show 0 ≤ y by omega) k1
    have p2 := Int.mul_nonpos_of_nonneg_of_nonpos (show 0 ≤ b by omega) k2
    refine Int.not_lt.1 fun hh => ?_
    have := mul_pos'' hh h2
    rw [e] at this
    omega
  · have y0 : y = 0 := by
      refine Int.le_antisymm ?_ (by omega)
      refine Int.not_lt.1 fun hh => ?_
      have := mul_pos'' h2 hh
      omega
    subst y0
    have x0 : 0 < x := by omega
    have := Int.mul_nonneg (show 0 ≤ b by omega) (show 0 ≤ x by omega)
    omega
theorem ord_ge {a b c d : Int} : 0 ≤ ordP a b c d ↔ ((upB a b = upB c d ∧ a * d - b * c ≤ 0) ∨ (upB a b = false ∧ upB c d = true)) := by
  unfold ordP
  cases h1 : upB a b <;> cases h2 : upB c d <;> simp
  all_goals (split <;> (try split) <;> omega)
theorem ord_trans {a b c d x y : Int} (ha : ¬ (a = 0 ∧ b = 0)) (hc : ¬ (c = 0 ∧ d = 0)) (hx : ¬ (x = 0 ∧ y = 0)) (h1 : 0 ≤ ordP a b c d) (h2 : 0 ≤ ordP c d x y) : 0 ≤ ordP a b x y := by
  have en : ∀ x y : Int, -x * -y = x * y := fun x y => by grind
  rw [ord_ge] at h1 h2 ⊢
  cases k1 : upB a b <;> cases k2 : upB c d <;> cases k3 : upB x y <;> rw [k1, k2] at h1 <;> rw [k2, k3] at h2 <;> simp at h1 h2 ⊢
  · have := cross_up (up_neg ha k1) (up_neg hc k2) (up_neg hx k3) (by rw [en, en]; omega) (by rw [en, en]; omega)
    rw [en, en] at this
    omega
  · exact cross_up k1 k2 k3 h1 h2
/- turns -/
def turnS (re im den q : Int) : Int × Int × Int × Int := if chkB re im den then (tRe re im (qn q), tIm re im (qn q), den, 0) else (0, 0, 0, 8)
theorem chk_turn {re im den : Int} (h : chkB re im den = true) (k : Nat) : chkB (tRe re im k) (tIm re im k) den = true := by
  obtain ⟨h1, h2, h3, h4⟩ := chk_iff.1 h
  have s : ∀ x y : Int, g3 x y den = g3 y x den := fun x y => by unfold g3; rw [g2_comm x y]
  have n1 : ∀ x y : Int, g3 (-x) y den = g3 x y den := fun x y => by unfold g3; rw [g2_neg]
  have n2 : ∀ x y : Int, g3 x (-y) den = g3 x y den := fun x y => by unfold g3; rw [g2_neg']
  rw [chk_iff]
  unfold tRe tIm
  split
  · exact ⟨h1, h2, h3, h4⟩
  · exact ⟨h1, by omega, by omega, by rw [n1, s]; exact h4⟩
  · exact ⟨h1, by omega, by omega, by rw [n1, n2]; exact h4⟩
  · exact ⟨h1, by omega, by omega, by rw [n2, s]; exact h4⟩
theorem qn_mod (q : Int) : (qn q : Int) % 4 = q % 4 ∧ qn q < 4 := by
  have h := qn_lt q
  refine ⟨?_, h⟩
  unfold qn
  have := Int.tmod_add_mul_tdiv q 4
  omega
theorem turn_turn {re im : Int} {j k : Nat} (hj : j < 4) (hk : k < 4) : tRe (tRe re im j) (tIm re im j) k = tRe re im ((j + k) % 4) ∧ tIm (tRe re im j) (tIm re im j) k = tIm re im ((j + k) % 4) := by
  have h1 : j = 0 ∨ j = 1 ∨ j = 2 ∨ j = 3 := by omega
  have h2 : k = 0 ∨ k = 1 ∨ k = 2 ∨ k = 3 := by omega
  rcases h1 with rfl | rfl | rfl | rfl <;> rcases h2 with rfl | rfl | rfl | rfl <;> simp [tRe, tIm]
theorem turn_back {re im den q : Int} (h : chkB re im den = true) : turnS (tRe re im (qn q)) (tIm re im (qn q)) den (-q) = (re, im, den, 0) := by
  obtain ⟨a, b⟩ := qn_mod q
  obtain ⟨c, d⟩ := qn_mod (-q)
  obtain ⟨e, f⟩ := turn_turn (re := re) (im := im) b d
  have z : (qn q + qn (-q)) % 4 = 0 := by omega
  unfold turnS
  rw [if_pos (chk_turn h _), e, f, z]
  rfl
theorem turn_four {re im den q : Int} : turnS re im den (q + 4) = turnS re im den q := by
  obtain ⟨a, b⟩ := qn_mod q
  obtain ⟨c, d⟩ := qn_mod (q + 4)
  have : qn (q + 4) = qn q := by omega
  unfold turnS
  rw [this]
theorem turn_mul {re im den : Int} (h : chkB re im den = true) : mulS re im den 0 1 1 = turnS re im den 1 := by
  have q1 : qn 1 = 1 := rfl
  have i1 : chkB 0 1 1 = true := by decide
  have t := made_valid (chk_turn h 1)
  unfold turnS
  rw [mul_of h i1, if_pos h, q1, ← t]
  simp [tRe, tIm]
end Go.Proofs.YtbbjclbpllfdeaaDoor
