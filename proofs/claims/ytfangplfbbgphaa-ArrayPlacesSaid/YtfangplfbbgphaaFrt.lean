/- Plain laws of layer 1: the sum and the product of two fractions in lowest terms. -/
import Derived.Test.YtfangplfbbgphaaFrs
namespace Go.Proofs.Ytfangplfbbgphaa
set_option linter.unusedVariables false
set_option maxRecDepth 100000
/- a fraction in lowest terms, if it is in range -/
def redF (N : Int) (D : Nat) : Int × Int × Int := lowF (decide (N < 0)) (N.natAbs / Nat.gcd N.natAbs D) (D / Nat.gcd N.natAbs D)
theorem cop_of {A B m : Nat} (h : Nat.gcd B m = 1) (f : ∀ d, d ∣ A → d ∣ m → d ∣ B) : Nat.gcd A m = 1 :=
  Nat.eq_one_of_dvd_one (h ▸ Nat.dvd_gcd (f _ (Nat.gcd_dvd_left _ _) (Nat.gcd_dvd_right _ _)) (Nat.gcd_dvd_right _ _))
theorem lowF_zero (b : Bool) (d : Nat) : lowF b 0 d = lowF false 0 d := by cases b <;> simp [lowF]
theorem tail_red {neg : Bool} {X g y v d1 d2 : Nat} (hg : 0 < g) (e1 : d1 = g * y) (e2 : d2 = g * v) (hy : Nat.gcd X y = 1) (hv : Nat.gcd X v = 1) :
    tailF neg X g d1 d2 = if X = 0 then (0, 1, 0) else lowF neg ((g * X) / Nat.gcd (g * X) (d1 * d2)) ((d1 * d2) / Nat.gcd (g * X) (d1 * d2)) := by
  subst e1 e2
  have h1 : Nat.gcd (X % g) g = Nat.gcd X g := by rw [← Nat.gcd_rec, Nat.gcd_comm]
  have e : g * y * (g * v) = g * (y * (v * g)) := by grind
  have h2 : Nat.gcd (g * X) (g * y * (g * v)) = g * Nat.gcd X g := by
    rw [e, Nat.gcd_mul_left, Nat.gcd_mul_right_right_of_gcd_eq_one hy, Nat.gcd_mul_right_right_of_gcd_eq_one hv]
  have hp : 0 < Nat.gcd X g := Nat.gcd_pos_of_pos_right _ hg
  have hd : Nat.gcd X g ∣ X := Nat.gcd_dvd_left _ _
  have hdg : Nat.gcd X g ∣ g := Nat.gcd_dvd_right _ _
  unfold tailF
  rw [h1, h2]
  have z : X / Nat.gcd X g = 0 ↔ X = 0 := by
    constructor
    · intro h
      have := Nat.div_mul_cancel hd
      rw [h] at this; omega
    · intro h; rw [h]; exact Nat.zero_div _
  by_cases c : X = 0
  · rw [if_pos (z.2 c), if_pos c]
  · rw [if_neg (fun h => c (z.1 h)), if_neg c, Nat.mul_div_mul_left _ _ hg, e, Nat.mul_div_mul_left _ _ hg, Nat.mul_div_cancel_left _ hg, Nat.mul_comm v g, Nat.mul_div_assoc _ (Nat.dvd_trans hdg (Nat.dvd_mul_right _ _))]
theorem redF_of_zero (D : Nat) (hD : 0 < D) : redF 0 D = (0, 1, 0) := by
  unfold redF
  simp [Nat.div_self hD, lowF]
/- what the tail of the sum gives, if N is its numerator -/
theorem tail_eq {neg : Bool} {X g y v d1 d2 : Nat} {N : Int} {D : Nat} (hg : 0 < g) (e1 : d1 = g * y) (e2 : d2 = g * v) (hy : Nat.gcd X y = 1) (hv : Nat.gcd X v = 1) (hN : N.natAbs = g * X) (hs : X ≠ 0 → neg = decide (N < 0)) (hD : D = d1 * d2) (h1 : 0 < d1) (h2 : 0 < d2) :
    tailF neg X g d1 d2 = redF N D := by
  rw [tail_red hg e1 e2 hy hv]
  by_cases c : X = 0
  · rw [if_pos c]
    have : N = 0 := by rw [c] at hN; omega
    rw [this, redF_of_zero D (by rw [hD]; exact Nat.mul_pos h1 h2)]
  · rw [if_neg c]
    unfold redF
    rw [hN, hD, hs c]
theorem addF_red {an ad bn bd : Int} (va : VF an ad) (vb : VF bn bd) : addF an ad bn bd = redF (an * bd + bn * ad) (ad.natAbs * bd.natAbs) := by
  have d1 := va.d1
  have d3 := vb.d1
  have ga := va.g
  have gb := vb.g
  obtain ⟨Y, rfl⟩ := Int.eq_ofNat_of_zero_le (show 0 ≤ ad by omega)
  obtain ⟨V, rfl⟩ := Int.eq_ofNat_of_zero_le (show 0 ≤ bd by omega)
  unfold addF
  simp only [Int.natAbs_natCast] at *
  have hg : 0 < Nat.gcd Y V := Nat.gcd_pos_of_pos_right _ (by omega)
  have eY := Nat.mul_div_cancel' (Nat.gcd_dvd_left Y V)
  have eV := Nat.mul_div_cancel' (Nat.gcd_dvd_right Y V)
  have cop : Nat.gcd (Y / Nat.gcd Y V) (V / Nat.gcd Y V) = 1 := Nat.coprime_div_gcd_div_gcd hg
  generalize Nat.gcd Y V = g at *
  generalize Y / g = y at *
  generalize V / g = v at *
  have cx : Nat.gcd an.natAbs y = 1 := by
    refine cop_of (B := an.natAbs) (m := y) ?_ (fun d h _ => h)
    exact Nat.Coprime.coprime_mul_left_right (k := g) (by rw [eY]; exact ga)
  have cu : Nat.gcd bn.natAbs v = 1 := Nat.Coprime.coprime_mul_left_right (k := g) (by rw [eV]; exact gb)
  have cP : Nat.gcd (an.natAbs * v) y = 1 := Nat.Coprime.mul_left cx (Nat.Coprime.symm cop)
  have cQ : Nat.gcd (bn.natAbs * y) v = 1 := Nat.Coprime.mul_left cu cop
  have pP : v ∣ an.natAbs * v := Nat.dvd_mul_left _ _
  have pQ : y ∣ bn.natAbs * y := Nat.dvd_mul_left _ _
  have nP : ((an.natAbs * v : Nat) : Int) * g = if an < 0 then -(an * V) else an * V := by
    rw [← eV]; push_cast
    by_cases c : an < 0
    · rw [if_pos c, show ((an.natAbs : Nat) : Int) = -an by omega]; grind
    · rw [if_neg c, show ((an.natAbs : Nat) : Int) = an by omega]; grind
  have nQ : ((bn.natAbs * y : Nat) : Int) * g = if bn < 0 then -(bn * Y) else bn * Y := by
    rw [← eY]; push_cast
    by_cases c : bn < 0
    · rw [if_pos c, show ((bn.natAbs : Nat) : Int) = -bn by omega]; grind
    · rw [if_neg c, show ((bn.natAbs : Nat) : Int) = bn by omega]; grind
  have zP : an < 0 → 0 < an.natAbs * v := fun h => Nat.mul_pos (by omega) (Nat.pos_of_ne_zero (fun e => by rw [e] at eV; omega))
  have zQ : bn < 0 → 0 < bn.natAbs * y := fun h => Nat.mul_pos (by omega) (Nat.pos_of_ne_zero (fun e => by rw [e] at eY; omega))
  generalize an.natAbs * v = P at *
  generalize bn.natAbs * y = Q at *
  have gi : 0 < (g : Int) := by omega
  unfold addP
  have gP : (P : Int) * g = ((g * P : Nat) : Int) := by push_cast; grind
  have gQ : (Q : Int) * g = ((g * Q : Nat) : Int) := by push_cast; grind
  rw [gP] at nP
  rw [gQ] at nQ
  have mP : 0 < P → 0 < g * P := fun h => Nat.mul_pos hg h
  have mQ : 0 < Q → 0 < g * Q := fun h => Nat.mul_pos hg h
  by_cases cs : decide (an < 0) = decide (bn < 0)
  · rw [if_pos cs]
    refine tail_eq hg eY.symm eV.symm ?_ ?_ ?_ ?_ rfl (by omega) (by omega)
    · exact cop_of cP (fun d h k => (Nat.dvd_add_left (Nat.dvd_trans k pQ)).1 h)
    · exact cop_of cQ (fun d h k => (Nat.dvd_add_right (Nat.dvd_trans k pP)).1 h)
    · rw [Nat.mul_add]
      generalize an * (V : Int) = A at *
      generalize bn * (Y : Int) = B at *
      by_cases c : an < 0
      · have c' : bn < 0 := by simpa [c] using cs
        rw [if_pos c] at nP; rw [if_pos c'] at nQ; omega
      · have c' : ¬ bn < 0 := by simpa [c] using cs
        rw [if_neg c] at nP; rw [if_neg c'] at nQ; omega
    · intro _
      generalize an * (V : Int) = A at *
      generalize bn * (Y : Int) = B at *
      by_cases c : an < 0
      · have c' : bn < 0 := by simpa [c] using cs
        rw [if_pos c] at nP; rw [if_pos c'] at nQ
        have := mP (zP c)
        simp [c]; omega
      · have c' : ¬ bn < 0 := by simpa [c] using cs
        rw [if_neg c] at nP; rw [if_neg c'] at nQ
        simp [c]; omega
  · rw [if_neg cs]
    by_cases cp : P < Q
    · rw [if_pos cp]
      have cl : g * P < g * Q := Nat.mul_lt_mul_of_pos_left cp hg
      have eX : P + (Q - P) = Q := by omega
      have eG : g * (Q - P) = g * Q - g * P := Nat.mul_sub g Q P
      refine tail_eq hg eV.symm eY.symm ?_ ?_ ?_ ?_ (Nat.mul_comm _ _) (by omega) (by omega)
      · refine cop_of cQ (fun d h k => ?_)
        rw [← eX]; exact Nat.dvd_add (Nat.dvd_trans k pP) h
      · refine cop_of cP (fun d h k => ?_)
        have := Nat.dvd_trans k pQ
        rw [← eX] at this
        exact (Nat.dvd_add_left h).1 this
      · rw [eG]
        generalize an * (V : Int) = A at *
        generalize bn * (Y : Int) = B at *
        by_cases c : an < 0
        · have c' : ¬ bn < 0 := fun h => cs (by simp [c, h])
          rw [if_pos c] at nP; rw [if_neg c'] at nQ; omega
        · have c' : bn < 0 := by
            by_cases h : bn < 0
            · exact h
            · exact absurd (by simp [c, h]) cs
          rw [if_neg c] at nP; rw [if_pos c'] at nQ; omega
      · intro _
        generalize an * (V : Int) = A at *
        generalize bn * (Y : Int) = B at *
        by_cases c : an < 0
        · have c' : ¬ bn < 0 := fun h => cs (by simp [c, h])
          rw [if_pos c] at nP; rw [if_neg c'] at nQ; simp [c']; omega
        · have c' : bn < 0 := by
            by_cases h : bn < 0
            · exact h
            · exact absurd (by simp [c, h]) cs
          rw [if_neg c] at nP; rw [if_pos c'] at nQ; simp [c']; omega
    · rw [if_neg cp]
      have cl : g * Q ≤ g * P := Nat.mul_le_mul_left _ (by omega)
      have eX : Q + (P - Q) = P := by omega
      have eG : g * (P - Q) = g * P - g * Q := Nat.mul_sub g P Q
      refine tail_eq hg eY.symm eV.symm ?_ ?_ ?_ ?_ rfl (by omega) (by omega)
      · refine cop_of cP (fun d h k => ?_)
        rw [← eX]; exact Nat.dvd_add (Nat.dvd_trans k pQ) h
      · refine cop_of cQ (fun d h k => ?_)
        have := Nat.dvd_trans k pP
        rw [← eX] at this
        exact (Nat.dvd_add_left h).1 this
      · rw [eG]
        generalize an * (V : Int) = A at *
        generalize bn * (Y : Int) = B at *
        by_cases c : an < 0
        · have c' : ¬ bn < 0 := fun h => cs (by simp [c, h])
          rw [if_pos c] at nP; rw [if_neg c'] at nQ; omega
        · have c' : bn < 0 := by
            by_cases h : bn < 0
            · exact h
            · exact absurd (by simp [c, h]) cs
          rw [if_neg c] at nP; rw [if_pos c'] at nQ; omega
      · intro hX
        have cl' : g * Q < g * P := Nat.mul_lt_mul_of_pos_left (by omega) hg
        generalize an * (V : Int) = A at *
        generalize bn * (Y : Int) = B at *
        by_cases c : an < 0
        · have c' : ¬ bn < 0 := fun h => cs (by simp [c, h])
          rw [if_pos c] at nP; rw [if_neg c'] at nQ; simp [c]; omega
        · have c' : bn < 0 := by
            by_cases h : bn < 0
            · exact h
            · exact absurd (by simp [c, h]) cs
          rw [if_neg c] at nP; rw [if_pos c'] at nQ; simp [c]; omega
theorem mulF_red {an ad bn bd : Int} (va : VF an ad) (vb : VF bn bd) : mulF an ad bn bd = redF (an * bn) (ad.natAbs * bd.natAbs) := by
  have d1 := va.d1
  have d3 := vb.d1
  have ga := va.g
  have gb := vb.g
  have hg : 0 < Nat.gcd an.natAbs bd.natAbs := Nat.gcd_pos_of_pos_right _ (by omega)
  have hh : 0 < Nat.gcd bn.natAbs ad.natAbs := Nat.gcd_pos_of_pos_right _ (by omega)
  have ex := Nat.mul_div_cancel' (Nat.gcd_dvd_left an.natAbs bd.natAbs)
  have ev := Nat.mul_div_cancel' (Nat.gcd_dvd_right an.natAbs bd.natAbs)
  have eu := Nat.mul_div_cancel' (Nat.gcd_dvd_left bn.natAbs ad.natAbs)
  have ey := Nat.mul_div_cancel' (Nat.gcd_dvd_right bn.natAbs ad.natAbs)
  have c1 : Nat.gcd (an.natAbs / Nat.gcd an.natAbs bd.natAbs) (bd.natAbs / Nat.gcd an.natAbs bd.natAbs) = 1 := Nat.coprime_div_gcd_div_gcd hg
  have c2 : Nat.gcd (bn.natAbs / Nat.gcd bn.natAbs ad.natAbs) (ad.natAbs / Nat.gcd bn.natAbs ad.natAbs) = 1 := Nat.coprime_div_gcd_div_gcd hh
  have nz : (an * bn).natAbs = an.natAbs * bn.natAbs := Int.natAbs_mul _ _
  have sg : an.natAbs * bn.natAbs ≠ 0 → (decide (an < 0) != decide (bn < 0)) = decide (an * bn < 0) := by
    intro h
    have a0 : an ≠ 0 := fun e => h (by rw [e]; simp)
    have b0 : bn ≠ 0 := fun e => h (by rw [e]; simp)
    by_cases ca : an < 0 <;> by_cases cb : bn < 0
    · have := Int.mul_pos_of_neg_of_neg ca cb
      simp [ca, cb]; omega
    · have := Int.mul_neg_of_neg_of_pos ca (show 0 < bn by omega)
      simp [ca, cb, this]
    · have := Int.mul_neg_of_pos_of_neg (show 0 < an by omega) cb
      simp [ca, cb, this]
    · have := Int.mul_pos (show 0 < an by omega) (show 0 < bn by omega)
      simp [ca, cb]; omega
  unfold mulF redF
  rw [nz]
  generalize (decide (an < 0) != decide (bn < 0)) = neg at *
  generalize decide (an * bn < 0) = neg' at *
  generalize an.natAbs = x at *
  generalize bn.natAbs = u at *
  generalize ad.natAbs = y at *
  generalize bd.natAbs = v at *
  generalize Nat.gcd x v = g at *
  generalize Nat.gcd u y = h at *
  generalize x / g = x' at *
  generalize v / g = v' at *
  generalize u / h = u' at *
  generalize y / h = y' at *
  have c3 : Nat.gcd x' y' = 1 := Nat.Coprime.coprime_mul_left (k := g) (Nat.Coprime.coprime_mul_left_right (k := h) (by rw [ex, ey]; exact ga))
  have c4 : Nat.gcd u' v' = 1 := Nat.Coprime.coprime_mul_left (k := h) (Nat.Coprime.coprime_mul_left_right (k := g) (by rw [eu, ev]; exact gb))
  have cc : Nat.gcd (x' * u') (y' * v') = 1 := Nat.Coprime.mul_left (Nat.Coprime.mul_right c3 c1) (Nat.Coprime.mul_right c2 c4)
  have hgh : 0 < g * h := Nat.mul_pos hg hh
  have e1 : x * u = g * h * (x' * u') := by rw [← ex, ← eu]; grind
  have e2 : y * v = g * h * (y' * v') := by rw [← ey, ← ev]; grind
  have e3 : Nat.gcd (x * u) (y * v) = g * h := by rw [e1, e2, Nat.gcd_mul_left, cc, Nat.mul_one]
  rw [e3, e2, Nat.mul_div_cancel_left _ hgh]
  by_cases c : x * u = 0
  · have z : x' * u' = 0 := by
      rw [e1] at c
      rcases Nat.mul_eq_zero.1 c with c | c
      · omega
      · exact c
    rw [z, c, Nat.zero_div, lowF_zero neg, lowF_zero neg']
  · rw [sg c, e1, Nat.mul_div_cancel_left _ hgh]
theorem redF_cases (N : Int) (D : Nat) : redF N D = (0, 0, 16) ∨ ∃ n d, redF N D = (n, d, 0) := by
  unfold redF lowF
  split
  · exact .inl rfl
  · exact .inr ⟨_, _, rfl⟩
/- the value of a fraction that is given, and that it is valid -/
theorem redF_val {N n d e : Int} {D : Nat} (hD : 0 < D) (h : redF N D = (n, d, e)) (he : e = 0) : VF n d ∧ n * D = N * d := by
  unfold redF at h
  have hp : 0 < Nat.gcd N.natAbs D := Nat.gcd_pos_of_pos_right _ hD
  have e1 := Nat.mul_div_cancel' (Nat.gcd_dvd_left N.natAbs D)
  have e2 := Nat.mul_div_cancel' (Nat.gcd_dvd_right N.natAbs D)
  have co : Nat.gcd (N.natAbs / Nat.gcd N.natAbs D) (D / Nat.gcd N.natAbs D) = 1 := Nat.coprime_div_gcd_div_gcd hp
  generalize Nat.gcd N.natAbs D = g at *
  generalize N.natAbs / g = m at *
  generalize D / g = k at *
  have k0 : 0 < k := Nat.pos_of_ne_zero (fun z => by rw [z] at e2; omega)
  unfold lowF at h
  by_cases c : 1000000000000000000 < m ∨ 1000000000000000000 < k
  · rw [if_pos c] at h
    cases h; cases he
  · rw [if_neg c] at h
    simp only [Prod.mk.injEq] at h
    obtain ⟨h1, h2, _⟩ := h
    subst h1 h2
    have eN : (g : Int) * m = if N < 0 then -N else N := by
      have : ((g * m : Nat) : Int) = (N.natAbs : Int) := by rw [e1]
      push_cast at this
      split <;> omega
    have eD : (g : Int) * k = D := by exact_mod_cast e2
    by_cases cn : N < 0
    · rw [if_pos cn] at eN
      simp only [cn, decide_true, if_true]
      refine ⟨⟨by omega, by omega, by omega, by omega, by simpa using co⟩, ?_⟩
      rw [← eD]; grind
    · rw [if_neg cn] at eN
      simp only [cn, decide_false, Bool.false_eq_true, if_false]
      refine ⟨⟨by omega, by omega, by omega, by omega, by simpa using co⟩, ?_⟩
      rw [← eD]; grind
/- two valid fractions of one value are the same -/
theorem VF.same {n d m k : Int} (h : VF n d) (h' : VF m k) (e : n * k = m * d) : n = m ∧ d = k := by
  have d1 := h.d1
  have k1 := h'.d1
  have en : n.natAbs * k.natAbs = m.natAbs * d.natAbs := by rw [← Int.natAbs_mul, ← Int.natAbs_mul, e]
  have a : d.natAbs ∣ k.natAbs := Nat.Coprime.dvd_of_dvd_mul_left (show Nat.Coprime d.natAbs n.natAbs from Nat.Coprime.symm h.g) (en ▸ Nat.dvd_mul_left _ _)
  have b : k.natAbs ∣ d.natAbs := Nat.Coprime.dvd_of_dvd_mul_left (show Nat.Coprime k.natAbs m.natAbs from Nat.Coprime.symm h'.g) (en ▸ Nat.dvd_mul_left _ _)
  have ed : d = k := by have := Nat.dvd_antisymm a b; omega
  subst ed
  refine ⟨?_, rfl⟩
  exact Int.eq_of_mul_eq_mul_right (by omega) e
theorem redF_of {N n d : Int} {D : Nat} (hD : 0 < D) (v : VF n d) (e : n * D = N * d) : redF N D = (n, d, 0) := by
  have d1 := v.d1
  have d2 := v.d2
  have n1 := v.n1
  have n2 := v.n2
  have hp : 0 < Nat.gcd N.natAbs D := Nat.gcd_pos_of_pos_right _ hD
  have e1 := Nat.mul_div_cancel' (Nat.gcd_dvd_left N.natAbs D)
  have e2 := Nat.mul_div_cancel' (Nat.gcd_dvd_right N.natAbs D)
  have co : Nat.gcd (N.natAbs / Nat.gcd N.natAbs D) (D / Nat.gcd N.natAbs D) = 1 := Nat.coprime_div_gcd_div_gcd hp
  have en : n.natAbs * D = N.natAbs * d.natAbs := by
    have := congrArg Int.natAbs e
    rwa [Int.natAbs_mul, Int.natAbs_mul, Int.natAbs_natCast] at this
  have sg : decide (N < 0) = decide (n < 0) := by
    have hDi : (0 : Int) < D := by omega
    by_cases c : n < 0
    · have := Int.mul_neg_of_neg_of_pos c hDi
      have : N < 0 := by
        by_cases t : N < 0
        · exact t
        · have := Int.mul_nonneg (show 0 ≤ N by omega) (show 0 ≤ d by omega); omega
      simp [c, this]
    · have := Int.mul_nonneg (show 0 ≤ n by omega) (show (0 : Int) ≤ D by omega)
      have : ¬ N < 0 := fun t => by have := Int.mul_neg_of_neg_of_pos t (show 0 < d by omega); omega
      simp [c, this]
  unfold redF
  rw [sg]
  generalize Nat.gcd N.natAbs D = g at *
  generalize N.natAbs / g = m at *
  generalize D / g = k at *
  rw [← e1, ← e2] at en
  have en' : n.natAbs * k = m * d.natAbs := by
    have : g * (n.natAbs * k) = g * (m * d.natAbs) := by rw [show g * (n.natAbs * k) = n.natAbs * (g * k) by grind, en]; grind
    exact Nat.eq_of_mul_eq_mul_left hp this
  have k0 : 0 < k := Nat.pos_of_ne_zero (fun z => by rw [z] at e2; omega)
  have a : d.natAbs ∣ k := Nat.Coprime.dvd_of_dvd_mul_left (show Nat.Coprime d.natAbs n.natAbs from Nat.Coprime.symm v.g) (en' ▸ Nat.dvd_mul_left _ _)
  have b : k ∣ d.natAbs := Nat.Coprime.dvd_of_dvd_mul_left (show Nat.Coprime k m from Nat.Coprime.symm co) (en' ▸ Nat.dvd_mul_left _ _)
  have ek := Nat.dvd_antisymm a b
  have em : n.natAbs = m := by rw [← ek] at en'; exact Nat.eq_of_mul_eq_mul_right (show 0 < d.natAbs by omega) en'
  unfold lowF
  rw [if_neg (by omega)]
  by_cases c : n < 0
  · have h1 : -(m : Int) = n := by clear en en' e1 e2 e; omega
    have h2 : (k : Int) = d := by clear en en' e1 e2 e; omega
    simp [c, h1, h2]
  · have h1 : (m : Int) = n := by clear en en' e1 e2 e; omega
    have h2 : (k : Int) = d := by clear en en' e1 e2 e; omega
    simp [c, h1, h2]
/- how far off: what the stage's theorem needs -/
theorem far_le {N D x y c d en ed gn gd : Int} (hD : 0 < D) (hy : 1 ≤ y) (hd : 1 ≤ d) (he : 1 ≤ ed) (hg : 1 ≤ gd) (h1 : en * (D * y) = (N * y - x * D) * ed) (h2 : gn * (D * d) = (N * d - c * D) * gd)
    (best : ((N * y - x * D).natAbs : Int) * d ≤ ((N * d - c * D).natAbs : Int) * y) : (en.natAbs : Int) * gd ≤ (gn.natAbs : Int) * ed := by
  have abs2 : ∀ {a b c e : Int}, 0 ≤ b → 0 ≤ e → a * b = c * e → (a.natAbs : Int) * b = (c.natAbs : Int) * e := by
    intro a b c e hb he h
    have := congrArg Int.natAbs h
    rw [Int.natAbs_mul, Int.natAbs_mul] at this
    have h' : ((a.natAbs * b.natAbs : Nat) : Int) = ((c.natAbs * e.natAbs : Nat) : Int) := by rw [this]
    rw [Int.natCast_mul, Int.natCast_mul, Int.natAbs_of_nonneg hb, Int.natAbs_of_nonneg he] at h'
    exact h'
  have a1 := abs2 (Int.mul_nonneg (by omega) (by omega)) (by omega) h1
  have a2 := abs2 (Int.mul_nonneg (by omega) (by omega)) (by omega) h2
  generalize ((N * y - x * D).natAbs : Int) = A at *
  generalize ((N * d - c * D).natAbs : Int) = B at *
  generalize (en.natAbs : Int) = E at *
  generalize (gn.natAbs : Int) = G at *
  have p : 0 < D * (y * d) := Int.mul_pos hD (Int.mul_pos (by omega) (by omega))
  have q : 0 ≤ ed * gd := Int.mul_nonneg (by omega) (by omega)
  have k1 : E * gd * (D * (y * d)) = A * d * (ed * gd) := by grind
  have k2 : G * ed * (D * (y * d)) = B * y * (ed * gd) := by grind
  have k3 := Int.mul_le_mul_of_nonneg_right best q
  rw [← k1, ← k2] at k3
  exact Int.le_of_mul_le_mul_right k3 p
theorem far_eq {N D x y c d en ed gn gd : Int} (hD : 0 < D) (hy : 1 ≤ y) (hd : 1 ≤ d) (he : 1 ≤ ed) (h1 : en * (D * y) = (N * y - x * D) * ed) (h2 : gn * (D * d) = (N * d - c * D) * ed) (ha : en.natAbs = gn.natAbs) :
    ((N * y - x * D).natAbs : Int) * d = ((N * d - c * D).natAbs : Int) * y := by
  have abs2 : ∀ {a b c e : Int}, 0 ≤ b → 0 ≤ e → a * b = c * e → (a.natAbs : Int) * b = (c.natAbs : Int) * e := by
    intro a b c e hb he h
    have := congrArg Int.natAbs h
    rw [Int.natAbs_mul, Int.natAbs_mul] at this
    have h' : ((a.natAbs * b.natAbs : Nat) : Int) = ((c.natAbs * e.natAbs : Nat) : Int) := by rw [this]
    rw [Int.natCast_mul, Int.natCast_mul, Int.natAbs_of_nonneg hb, Int.natAbs_of_nonneg he] at h'
    exact h'
  have a1 := abs2 (Int.mul_nonneg (by omega) (by omega)) (by omega) h1
  have a2 := abs2 (Int.mul_nonneg (by omega) (by omega)) (by omega) h2
  rw [ha] at a1
  generalize ((N * y - x * D).natAbs : Int) = A at *
  generalize ((N * d - c * D).natAbs : Int) = B at *
  generalize (gn.natAbs : Int) = G at *
  have : A * d * ed = B * y * ed := by grind
  exact Int.eq_of_mul_eq_mul_right (by omega) this
end Go.Proofs.Ytfangplfbbgphaa
