/- Plain mathematics: neighbours with small denominators that enclose a fraction, and the nearest one. No program is in sight here. -/
import Derived.Test.YtfangplfbbgphaaBlk
set_option linter.unusedVariables false
set_option maxRecDepth 100000
namespace Farey
theorem pos_mul {a b : Int} (ha : 0 < a) (hb : 0 < b) : 0 < a * b := Int.mul_pos ha hb
theorem le_mul_one {a b : Int} (ha : 0 ≤ a) (hb : 1 ≤ b) : a ≤ a * b := by
  have := Int.mul_le_mul_of_nonneg_left hb ha
  omega
/- two neighbours with denominators of at most n that enclose N / D -/
structure FP (N D n p q p' q' : Int) : Prop where
  q1 : 1 ≤ q
  qn : q ≤ n
  r1 : 1 ≤ q'
  rn : q' ≤ n
  big : n < q + q'
  det : p' * q - p * q' = 1
  lo : p * D < N * q
  hi : N * q' < p' * D
theorem FP.side {N D n p q p' q' : Int} (h : FP N D n p q p' q') {x y : Int} (hn : y ≤ n) : x * q ≤ p * y ∨ p' * y ≤ x * q' := by
  by_cases h1 : x * q ≤ p * y
  · exact .inl h1
  by_cases h2 : p' * y ≤ x * q'
  · exact .inr h2
  exfalso
  have a1 := le_mul_one (a := q) (b := p' * y - x * q') (by have := h.q1; omega) (by omega)
  have a2 := le_mul_one (a := q') (b := x * q - p * y) (by have := h.r1; omega) (by omega)
  have e : q * (p' * y - x * q') + q' * (x * q - p * y) = y := by have := h.det; grind
  have := h.big
  omega
theorem FP.left_le {N D n p q p' q' r s r' s' : Int} (hD : 0 < D) (h : FP N D n p q p' q') (k : FP N D n r s r' s') : r * q ≤ p * s := by
  rcases h.side (x := r) k.qn with h1 | h1
  · exact h1
  · exfalso
    have k1 := k.lo
    have k2 := h.hi
    have s1 := k.q1
    have t1 := h.r1
    have a : r * D * q' < N * s * q' := Int.mul_lt_mul_of_pos_right k1 (by omega)
    have b : N * q' * s < p' * D * s := Int.mul_lt_mul_of_pos_right k2 (by omega)
    have c : p' * s * D ≤ r * q' * D := Int.mul_le_mul_of_nonneg_right h1 (by omega)
    grind
theorem FP.right_le {N D n p q p' q' r s r' s' : Int} (hD : 0 < D) (h : FP N D n p q p' q') (k : FP N D n r s r' s') : p' * s' ≤ r' * q' := by
  rcases h.side (x := r') k.rn with h1 | h1
  · exfalso
    have k1 := k.hi
    have k2 := h.lo
    have s1 := k.r1
    have t1 := h.q1
    have a : N * s' * q < r' * D * q := Int.mul_lt_mul_of_pos_right k1 (by omega)
    have b : p * D * s' < N * q * s' := Int.mul_lt_mul_of_pos_right k2 (by omega)
    have c : r' * q * D ≤ p * s' * D := Int.mul_le_mul_of_nonneg_right h1 (by omega)
    grind
  · exact h1
theorem dvd_same {a b : Int} (ha : 1 ≤ a) (hb : 1 ≤ b) (h1 : a ∣ b) (h2 : b ∣ a) : a = b := by
  have := Int.le_of_dvd (by omega) h1
  have := Int.le_of_dvd (by omega) h2
  omega
theorem FP.unique {N D n p q p' q' r s r' s' : Int} (hD : 0 < D) (h : FP N D n p q p' q') (k : FP N D n r s r' s') : p = r ∧ q = s ∧ p' = r' ∧ q' = s' := by
  have e1 : r * q = p * s := by have := h.left_le hD k; have := k.left_le hD h; omega
  have e2 : p' * s' = r' * q' := by have := h.right_le hD k; have := k.right_le hD h; omega
  have d1 := h.det
  have d2 := k.det
  have hq : q = s := dvd_same h.q1 k.q1 ⟨s * p' - q' * r, by grind⟩ ⟨r' * q - s' * p, by grind⟩
  have hq' : q' = s' := dvd_same h.r1 k.r1 ⟨r' * q - p * s', by grind⟩ ⟨p' * s - r * q', by grind⟩
  subst hq hq'
  have a : r = p := Int.eq_of_mul_eq_mul_right (by have := h.q1; omega) e1
  have b : p' = r' := Int.eq_of_mul_eq_mul_right (by have := h.r1; omega) e2
  exact ⟨a.symm, rfl, b, rfl⟩
/- the nearest one, the less one of two -/
def Near (N D n x y : Int) : Prop := ∃ p q p' q' : Int, FP N D n p q p' q' ∧ (((N * q - p * D) * q' ≤ (p' * D - N * q') * q ∧ x = p ∧ y = q) ∨ ((p' * D - N * q') * q < (N * q - p * D) * q' ∧ x = p' ∧ y = q'))
theorem Near.unique {N D n x y u v : Int} (hD : 0 < D) (h : Near N D n x y) (k : Near N D n u v) : x = u ∧ y = v := by
  obtain ⟨p, q, p', q', h1, h2⟩ := h
  obtain ⟨r, s, r', s', k1, k2⟩ := k
  obtain ⟨rfl, rfl, rfl, rfl⟩ := h1.unique hD k1
  rcases h2 with ⟨a, rfl, rfl⟩ | ⟨a, rfl, rfl⟩ <;> rcases k2 with ⟨b, rfl, rfl⟩ | ⟨b, rfl, rfl⟩
  · exact ⟨rfl, rfl⟩
  · omega
  · omega
  · exact ⟨rfl, rfl⟩
theorem Near.facts {N D n x y : Int} (h : Near N D n x y) : 1 ≤ y ∧ y ≤ n ∧ ∃ a b : Int, a * x + b * y = 1 := by
  obtain ⟨p, q, p', q', h1, h2⟩ := h
  have := h1.det
  rcases h2 with ⟨a, rfl, rfl⟩ | ⟨a, rfl, rfl⟩
  · exact ⟨h1.q1, h1.qn, -q', p', by grind⟩
  · exact ⟨h1.r1, h1.rn, q, -p, by grind⟩
/- no fraction with such a denominator is nearer, or as near and less -/
theorem Near.best {N D n x y c d : Int} (hD : 0 < D) (h : Near N D n x y) (hd : 1 ≤ d) (hn : d ≤ n) :
    ((N * y - x * D).natAbs : Int) * d ≤ ((N * d - c * D).natAbs : Int) * y ∧ (((N * y - x * D).natAbs : Int) * d = ((N * d - c * D).natAbs : Int) * y → x * d ≤ c * y) := by
  obtain ⟨p, q, p', q', h1, h2⟩ := h
  have lo := h1.lo
  have hi := h1.hi
  have q1 := h1.q1
  have r1 := h1.r1
  have side := h1.side (x := c) hn
  have lt : p * q' < p' * q := by have := h1.det; omega
  have el : ((N * q - p * D).natAbs : Int) = N * q - p * D := by omega
  have er : ((N * q' - p' * D).natAbs : Int) = p' * D - N * q' := by omega
  rcases side with hs | hs
  · have g0 : c * D < N * d := by
      have a : c * q * D ≤ p * d * D := Int.mul_le_mul_of_nonneg_right hs (by omega)
      have b : p * D * d < N * q * d := Int.mul_lt_mul_of_pos_right lo (by omega)
      have e : c * D * q < N * d * q := by grind
      exact Int.lt_of_mul_lt_mul_right e (by omega)
    have ec : ((N * d - c * D).natAbs : Int) = N * d - c * D := by omega
    have key : (N * q - p * D) * d ≤ (N * d - c * D) * q := by
      have a : c * q * D ≤ p * d * D := Int.mul_le_mul_of_nonneg_right hs (by omega)
      grind
    rw [ec]
    rcases h2 with ⟨a, rfl, rfl⟩ | ⟨a, rfl, rfl⟩
    · rw [el]
      refine ⟨key, fun e => ?_⟩
      have e' : c * x * 0 + (c * y) * D = (x * d) * D := by grind
      have : c * y = x * d := Int.eq_of_mul_eq_mul_right (a := D) (by omega) (by grind)
      omega
    · rw [er]
      have k1 : (x * D - N * y) * q * d < (N * q - p * D) * y * d := Int.mul_lt_mul_of_pos_right a (by omega)
      have k2 : (N * q - p * D) * d * y ≤ (N * d - c * D) * q * y := Int.mul_le_mul_of_nonneg_right key (by omega)
      have k3 : (x * D - N * y) * d * q < (N * d - c * D) * y * q := by grind
      have k4 := Int.lt_of_mul_lt_mul_right k3 (by omega)
      exact ⟨by omega, fun e => by omega⟩
  · have g0 : N * d < c * D := by
      have a : p' * d * D ≤ c * q' * D := Int.mul_le_mul_of_nonneg_right hs (by omega)
      have b : N * q' * d < p' * D * d := Int.mul_lt_mul_of_pos_right hi (by omega)
      have e : N * d * q' < c * D * q' := by grind
      exact Int.lt_of_mul_lt_mul_right e (by omega)
    have ec : ((N * d - c * D).natAbs : Int) = c * D - N * d := by omega
    have key : (p' * D - N * q') * d ≤ (c * D - N * d) * q' := by
      have a : p' * d * D ≤ c * q' * D := Int.mul_le_mul_of_nonneg_right hs (by omega)
      grind
    have lts : ∀ {u v : Int}, u * q' ≤ p' * v → 0 < v → u * d ≤ c * v := fun {u v} h3 hv => by
      have a : u * q' * d ≤ p' * v * d := Int.mul_le_mul_of_nonneg_right h3 (by omega)
      have b : p' * d * v ≤ c * q' * v := Int.mul_le_mul_of_nonneg_right hs (by omega)
      have e : u * d * q' ≤ c * v * q' := by grind
      exact Int.le_of_mul_le_mul_right e (by omega)
    rw [ec]
    rcases h2 with ⟨a, rfl, rfl⟩ | ⟨a, rfl, rfl⟩
    · rw [el]
      have k1 : (N * y - x * D) * q' * d ≤ (p' * D - N * q') * y * d := Int.mul_le_mul_of_nonneg_right a (by omega)
      have k2 : (p' * D - N * q') * d * y ≤ (c * D - N * d) * q' * y := Int.mul_le_mul_of_nonneg_right key (by omega)
      have k3 : (N * y - x * D) * d * q' ≤ (c * D - N * d) * y * q' := by grind
      have k4 := Int.le_of_mul_le_mul_right k3 (by omega)
      exact ⟨k4, fun e => lts (by omega) (by omega)⟩
    · rw [er]
      exact ⟨key, fun e => lts (Int.le_refl _) (by omega)⟩
/- the state of the expansion of X / D: two convergents, how far they are off, and a sign -/
structure LI (X D n p0 q0 p1 q1 x y s : Int) : Prop where
  a : q0 * X - p0 * D = s * x
  b : p1 * D - q1 * X = s * y
  det : p1 * q0 - p0 * q1 = s
  sq : s * s = 1
  x0 : 0 ≤ x
  y1 : 1 ≤ y
  q00 : 0 ≤ q0
  q0n : q0 ≤ n
  q10 : 0 ≤ q1
  q1n : q1 ≤ n
theorem LI.sum {X D n p0 q0 p1 q1 x y s : Int} (h : LI X D n p0 q0 p1 q1 x y s) : x * q1 + y * q0 = D := by
  have := h.a; have := h.b; have := h.det; have := h.sq; grind
theorem LI.sumN {X D n p0 q0 p1 q1 x y s : Int} (h : LI X D n p0 q0 p1 q1 x y s) : x * p1 + y * p0 = X := by
  have := h.a; have := h.b; have := h.det; have := h.sq; grind
theorem cop_dvd {X D q p : Int} (hc : Int.gcd X D = 1) (h : p * D = q * X) : D ∣ q := by
  have h1 : D ∣ X * q := ⟨p, by grind⟩
  have h2 : Nat.Coprime D.natAbs X.natAbs := by have h2 : Int.gcd D X = 1 := by rw [Int.gcd_comm]; exact hc
                                                exact h2
  have h3 : D.natAbs ∣ X.natAbs * q.natAbs := by rw [← Int.natAbs_mul]; exact Int.natAbs_dvd_natAbs.2 h1
  exact Int.natAbs_dvd_natAbs.1 (h2.dvd_of_dvd_mul_left h3)
theorem LI.step {X D n p0 q0 p1 q1 x y s c : Int} (hc : Int.gcd X D = 1) (hD : n < D) (hn : 1 ≤ n) (h : LI X D n p0 q0 p1 q1 x y s) (e1 : c * y ≤ x) (hq : c * q1 + q0 ≤ n) (c0 : 0 ≤ c) :
    LI X D n p1 q1 (c * p1 + p0) (c * q1 + q0) y (x - c * y) (-s) := by
  have ha := h.a
  have hb := h.b
  have hd := h.det
  have hs := h.sq
  have b' : (c * p1 + p0) * D - (c * q1 + q0) * X = -s * (x - c * y) := by grind
  have d' : (c * p1 + p0) * q1 - p1 * (c * q1 + q0) = -s := by grind
  have nn : 0 ≤ c * q1 + q0 := by have := Int.mul_nonneg c0 h.q10; have := h.q00; omega
  refine ⟨by grind, b', d', by grind, by have := h.y1; omega, ?_, h.q10, h.q1n, nn, hq⟩
  by_cases hz : x - c * y = 0
  · exfalso
    rw [hz] at b'
    have h3 : (c * p1 + p0) * D = (c * q1 + q0) * X := by grind
    obtain ⟨t, ht⟩ := cop_dvd hc h3
    have t0 : ¬ (c * q1 + q0 = 0) := fun e => by
      rw [e] at h3 d'
      have hp : (c * p1 + p0) * D = 0 := by grind
      rcases Int.mul_eq_zero.1 hp with h4 | h4
      · rw [h4] at d'
        have : s = 0 := by grind
        rw [this] at hs; omega
      · omega
    have := Int.le_of_dvd (by omega) (cop_dvd hc h3)
    omega
  · omega
theorem LI.bounds {X D n p0 q0 p1 q1 x y s c : Int} (h : LI X D n p0 q0 p1 q1 x y s) (e1 : c * y ≤ x) (c0 : 0 ≤ c) : 0 ≤ c * q1 ∧ c * q1 ≤ D ∧ c ≤ x := by
  have y1 := h.y1
  have a1 : c ≤ c * y := le_mul_one c0 y1
  have q10 := h.q10
  have a2 : c * q1 ≤ x * q1 := Int.mul_le_mul_of_nonneg_right (by omega) q10
  have := h.sum
  have := Int.mul_nonneg (show 0 ≤ y by omega) h.q00
  have := Int.mul_nonneg c0 q10
  exact ⟨by omega, by omega, by omega⟩
theorem LI.boundsN {X D n p0 q0 p1 q1 x y s c : Int} (h : LI X D n p0 q0 p1 q1 x y s) (e1 : c * y ≤ x) (c0 : 0 ≤ c) (p00 : 0 ≤ p0) (p10 : 0 ≤ p1) : 0 ≤ c * p1 ∧ c * p1 ≤ X ∧ p0 ≤ X := by
  have y1 := h.y1
  have a1 : c ≤ c * y := le_mul_one c0 y1
  have a2 : c * p1 ≤ x * p1 := Int.mul_le_mul_of_nonneg_right (by omega) p10
  have := h.sumN
  have : p0 ≤ y * p0 := by have := le_mul_one p00 y1; rw [Int.mul_comm] at this; exact this
  have := Int.mul_nonneg c0 p10
  have := Int.mul_nonneg h.x0 p10
  exact ⟨by omega, by omega, by omega⟩
/- where the next convergent is too great: the last one, and the farthest on the other side -/
theorem LI.fp {X D n p0 q0 p1 q1 x y s c m : Int} (h : LI X D n p0 q0 p1 q1 x y s) (e1 : c * y ≤ x) (hq : n < c * q1 + q0) (m1 : m * q1 ≤ n - q0) (m2 : n - q0 < m * q1 + q1) :
    1 ≤ q1 ∧ (s = 1 ∨ s = -1) ∧ 0 ≤ m ∧ 1 ≤ x - m * y ∧
    (s = 1 → FP X D n (p0 + m * p1) (q0 + m * q1) p1 q1) ∧ (s = -1 → FP X D n p1 q1 (p0 + m * p1) (q0 + m * q1)) := by
  have q1p : 1 ≤ q1 := by
    by_cases e : q1 = 0
    · rw [e] at hq; have := h.q0n; omega
    · have := h.q10; omega
  have hs : s = 1 ∨ s = -1 := by
    have := h.sq
    have h1 : (s - 1) * (s + 1) = 0 := by grind
    rcases Int.mul_eq_zero.1 h1 with h2 | h2
    · exact .inl (by omega)
    · exact .inr (by omega)
  have m0 : 0 ≤ m := by
    by_cases e : m < 0
    · have : (m + 1) * q1 ≤ 0 * q1 := Int.mul_le_mul_of_nonneg_right (by omega) (by omega)
      have := h.q0n
      grind
    · omega
  have mc : m < c := by
    by_cases e : m < c
    · exact e
    · have : c * q1 ≤ m * q1 := Int.mul_le_mul_of_nonneg_right (by omega) (by omega)
      omega
  have y1 := h.y1
  have off : 1 ≤ x - m * y := by
    have : (m + 1) * y ≤ c * y := Int.mul_le_mul_of_nonneg_right (by omega) (by omega)
    grind
  have ha := h.a
  have hb := h.b
  have hd := h.det
  have q00 := h.q00
  have mq := Int.mul_nonneg m0 (show 0 ≤ q1 by omega)
  have q1n := h.q1n
  refine ⟨q1p, hs, m0, off, fun e => ?_, fun e => ?_⟩
  · subst e
    have u1 : X * (q0 + m * q1) - (p0 + m * p1) * D = x - m * y := by grind
    have u2 : p1 * D - X * q1 = y := by grind
    exact ⟨by omega, by omega, q1p, q1n, by omega, by grind, by omega, by omega⟩
  · subst e
    have u1 : (p0 + m * p1) * D - X * (q0 + m * q1) = x - m * y := by grind
    have u2 : X * q1 - p1 * D = y := by grind
    exact ⟨q1p, q1n, by omega, by omega, by omega, by grind, by omega, by omega⟩
theorem FP.neg {N D n p q p' q' : Int} (h : FP N D n p q p' q') : FP (-N) D n (-p') q' (-p) q :=
  ⟨h.r1, h.rn, h.q1, h.qn, by have := h.big; omega, by have := h.det; grind, by have := h.hi; grind, by have := h.lo; grind⟩
/- the choice between the two -/
theorem pick {N D n p1 q1 p2 q2 y off s : Int} (hs : s = 1 ∨ s = -1) (e1 : p1 * D - N * q1 = s * y) (e2 : N * q2 - p2 * D = s * off)
    (h1 : s = 1 → FP N D n p2 q2 p1 q1) (h2 : s = -1 → FP N D n p1 q1 p2 q2) :
    (y * q2 < off * q1 ∨ (y * q2 = off * q1 ∧ p1 * q2 < p2 * q1) → Near N D n p1 q1) ∧ (¬ (y * q2 < off * q1 ∨ (y * q2 = off * q1 ∧ p1 * q2 < p2 * q1)) → Near N D n p2 q2) := by
  rcases hs with e | e
  · have k := h1 e
    subst e
    have d := k.det
    have u : N * q2 - p2 * D = off := by omega
    have v : p1 * D - N * q1 = y := by omega
    refine ⟨fun h => ⟨p2, q2, p1, q1, k, .inr ⟨?_, rfl, rfl⟩⟩, fun h => ⟨p2, q2, p1, q1, k, .inl ⟨?_, rfl, rfl⟩⟩⟩
    · rw [u, v]
      rcases h with h | ⟨h, h'⟩
      · exact h
      · exfalso; grind
    · rw [u, v]
      have : ¬ (y * q2 < off * q1) := fun h' => h (.inl h')
      omega
  · have k := h2 e
    subst e
    have d := k.det
    have u : N * q1 - p1 * D = y := by omega
    have v : p2 * D - N * q2 = off := by omega
    refine ⟨fun h => ⟨p1, q1, p2, q2, k, .inl ⟨?_, rfl, rfl⟩⟩, fun h => ⟨p1, q1, p2, q2, k, .inr ⟨?_, rfl, rfl⟩⟩⟩
    · rw [u, v]
      rcases h with h | ⟨h, h'⟩
      · omega
      · omega
    · rw [u, v]
      have a : ¬ (y * q2 < off * q1) := fun h' => h (.inl h')
      have b : ¬ (y * q2 = off * q1) := fun h' => h (.inr ⟨h', by omega⟩)
      omega
/- the expansion of x / y -/
def ex (x y : Int) : List Int := if h : 0 < y then (x / y) :: ex y (x % y) else []
termination_by y.toNat
decreasing_by
  have h1 := Int.emod_lt_of_pos x h
  have h2 := Int.emod_nonneg x (show y ≠ 0 by omega)
  omega
theorem ex_pos {x y : Int} (h : 0 < y) : ex x y = (x / y) :: ex y (x % y) := by rw [ex, dif_pos h]
theorem ex_zero {x y : Int} (h : ¬ 0 < y) : ex x y = [] := by rw [ex, dif_neg h]
def fib : Nat → Nat
  | 0 => 0
  | 1 => 1
  | n + 2 => fib (n + 1) + fib n
theorem ex_fib : ∀ (k : Nat) (x y : Int), 0 ≤ y → k ≤ (ex x y).length → (fib k : Int) ≤ y
  | 0, x, y, hy, h => by simpa [fib] using hy
  | 1, x, y, hy, h => by
    by_cases h0 : 0 < y
    · simp [fib]; omega
    · rw [ex_zero h0] at h; simp at h
  | n + 2, x, y, hy, h => by
    by_cases h0 : 0 < y
    · rw [ex_pos h0] at h
      simp only [List.length_cons] at h
      have r0 := Int.emod_nonneg x (show y ≠ 0 by omega)
      have r1 := Int.emod_lt_of_pos x h0
      have ih1 := ex_fib (n + 1) y (x % y) r0 (by omega)
      by_cases h2 : 0 < x % y
      · rw [ex_pos h2] at h
        simp only [List.length_cons] at h
        have s0 := Int.emod_nonneg y (show x % y ≠ 0 by omega)
        have ih2 := ex_fib n (x % y) (y % (x % y)) s0 (by omega)
        have e := Int.mul_ediv_add_emod y (x % y)
        have d1 : 1 ≤ y / (x % y) := (Int.le_ediv_iff_mul_le h2).2 (by omega)
        have := le_mul_one (a := x % y) (b := y / (x % y)) (by omega) d1
        simp only [fib]
        omega
      · rw [ex_zero h2] at h
        simp at h
    · rw [ex_zero h0] at h; simp at h
def fibT : Nat → Nat → Nat → Nat
  | 0, a, _ => a
  | n + 1, a, b => fibT n b (a + b)
theorem fibT_eq : ∀ n k, fibT n (fib k) (fib (k + 1)) = fib (k + n)
  | 0, k => rfl
  | n + 1, k => by
    have := fibT_eq n (k + 1)
    simp only [fibT]
    rw [show fib k + fib (k + 1) = fib (k + 2) by simp only [fib]; omega]
    rw [show k + (n + 1) = k + 1 + n by omega]
    exact this
theorem fib88 : fib 88 = 1100087778366101931 := by
  have := fibT_eq 88 0
  rw [Nat.zero_add] at this
  rw [← this]
  decide +kernel
theorem ex_len {x y : Int} (h0 : 0 ≤ y) (h : y ≤ 1000000000000000000) : (ex x y).length ≤ 87 := by
  by_cases hk : 88 ≤ (ex x y).length
  · have := ex_fib 88 x y h0 hk
    rw [fib88] at this
    omega
  · omega
end Farey
