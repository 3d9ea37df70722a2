/- Plain laws of layer 1: folding a list. -/
import Derived.Test.YtpeoecgehdicmaaDoorFse
import Derived.Test.YtpeoecgehdicmaaDoorFta
namespace Go.Proofs.YtpeoecgehdicmaaDoor
set_option linter.unusedVariables false
def inr (x : Int) : Prop := -1000000000000000000 ≤ x ∧ x ≤ 1000000000000000000
instance (x : Int) : Decidable (inr x) := by unfold inr; exact inferInstance
def foldF : List Int → Int × Int × Int
  | [] => (0, 0, 16)
  | [c] => if inr c then (c, 1, 0) else (0, 0, 16)
  | c :: c' :: r => if (foldF (c' :: r)).2.2 = 0 ∧ inr c ∧ inr (c * (foldF (c' :: r)).1 + (foldF (c' :: r)).2.1) then (c * (foldF (c' :: r)).1 + (foldF (c' :: r)).2.1, (foldF (c' :: r)).1, 0) else (0, 0, 16)
theorem foldF_cons {c : Int} {r : List Int} (h : r ≠ []) : foldF (c :: r) = if (foldF r).2.2 = 0 ∧ inr c ∧ inr (c * (foldF r).1 + (foldF r).2.1) then (c * (foldF r).1 + (foldF r).2.1, (foldF r).1, 0) else (0, 0, 16) := by
  cases r with
  | nil => exact absurd rfl h
  | cons c' r => rw [foldF]
theorem foldF_err : ∀ (l : List Int), (foldF l).2.2 ≠ 0 → foldF l = (0, 0, 16)
  | [], _ => rfl
  | [c], h => by
    unfold foldF at h ⊢
    split
    · rename_i k; rw [if_pos k] at h; exact absurd rfl h
    · rfl
  | c :: c' :: r, h => by
    rw [foldF_cons (by simp)] at h ⊢
    split
    · rename_i k; rw [if_pos k] at h; exact absurd rfl h
    · rfl
theorem foldF_bad {l : List Int} : ∀ k, k < l.length → (foldF (l.drop k)).2.2 ≠ 0 → foldF l = (0, 0, 16) := by
  induction l with
  | nil => intro k h; simp at h
  | cons c r ih =>
    intro k hk h
    cases k with
    | zero => rw [List.drop_zero] at h; exact foldF_err _ h
    | succ k =>
      rw [List.drop_succ_cons] at h
      have hr : r ≠ [] := fun e => by subst e; simp at hk
      have := ih k (by simpa using hk) h
      rw [foldF_cons hr, this, if_neg (fun x => absurd x.1 (by decide))]
theorem gcd_shift {c n d : Int} (h : Nat.gcd d.natAbs n.natAbs = 1) : Nat.gcd (c * n + d).natAbs n.natAbs = 1 := by
  have a : ((Nat.gcd (c * n + d).natAbs n.natAbs : Nat) : Int) ∣ n := Int.ofNat_dvd_left.2 (Nat.gcd_dvd_right _ _)
  have b : ((Nat.gcd (c * n + d).natAbs n.natAbs : Nat) : Int) ∣ c * n + d := Int.ofNat_dvd_left.2 (Nat.gcd_dvd_left _ _)
  have e : ((Nat.gcd (c * n + d).natAbs n.natAbs : Nat) : Int) ∣ d := (Int.dvd_add_right (Int.dvd_mul_of_dvd_right a)).1 b
  exact Nat.eq_one_of_dvd_one (h ▸ Nat.dvd_gcd (Int.ofNat_dvd_left.1 e) (Int.ofNat_dvd_left.1 a))
theorem VF.turn {n d : Int} (v : VF n d) (h : 1 ≤ n) : VF d n := ⟨h, v.n2, by have := v.d1; omega, v.d2, by rw [Nat.gcd_comm]; exact v.g⟩
/- of a list whose elements are at least 1: its fraction is valid, at least 1 -/
theorem foldF_pos : ∀ (l : List Int), (∀ x ∈ l, 1 ≤ x) → ∀ n d, foldF l = (n, d, 0) → VF n d ∧ d ≤ n := by
  intro l
  induction l with
  | nil => intro _ n d h; cases h
  | cons c r ih =>
    intro hp n d h
    have hc := hp c (by simp)
    cases r with
    | nil =>
      unfold foldF at h
      split at h
      · rename_i k
        cases h
        exact ⟨⟨by omega, by omega, k.1, k.2, by simp⟩, hc⟩
      · cases h
    | cons c' r =>
      rw [foldF_cons (by simp)] at h
      split at h
      · rename_i k
        obtain ⟨⟨n', d', e'⟩, he⟩ : ∃ z, foldF (c' :: r) = z := ⟨_, rfl⟩
        rw [he] at h k
        obtain ⟨k1, k2, k3⟩ := k
        simp only at k1 k3 h
        subst k1
        obtain ⟨v, hle⟩ := ih (fun x hx => hp x (by simp [hx])) n' d' he
        simp only [Prod.mk.injEq, and_true] at h
        obtain ⟨rfl, rfl⟩ := h
        have d1 := v.d1
        have m : 1 * n' ≤ c * n' := Int.mul_le_mul_of_nonneg_right hc (by omega)
        exact ⟨⟨by omega, v.n2, k3.1, k3.2, gcd_shift (by rw [Nat.gcd_comm]; exact v.g)⟩, by omega⟩
      · cases h
theorem redF_cop {N : Int} {D : Nat} (h : Nat.gcd N.natAbs D = 1) (hN : ¬ inr N) : redF N D = (0, 0, 16) := by
  unfold redF
  rw [h, Nat.div_one]
  refine lowF_great (.inl ?_)
  unfold inr at hN
  omega
/- a whole number added to the turned fraction -/
theorem add_turn {c n d : Int} (hc : inr c) (v : VF d n) : addF c 1 d n = if inr (c * n + d) then (c * n + d, n, 0) else (0, 0, 16) := by
  have vc : VF c 1 := ⟨by omega, by omega, hc.1, hc.2, by simp⟩
  have d1 := v.d1
  have d2 := v.d2
  have g := gcd_shift (c := c) v.g
  have e2 : ((1 : Int).natAbs * n.natAbs) = n.natAbs := by simp
  rw [addF_red vc v, Int.mul_one, e2]
  by_cases h : inr (c * n + d)
  · rw [if_pos h]
    refine redF_of (by omega) ⟨v.d1, v.d2, h.1, h.2, g⟩ ?_
    rw [Int.natAbs_of_nonneg (by omega)]
  · rw [if_neg h]
    exact redF_cop g h
def foldR (l : List Int) : Int × Int × Int :=
  if l.length = 0 ∨ 100 < l.length then (0, 0, 4) else if ¬ inr (l.headD 0) then (0, 0, 2) else if ∃ x ∈ l.tail, x < 1 then (0, 0, 2) else foldF l
theorem make_one (c : Int) : makeF c 1 = if inr c then (c, 1, 0) else (0, 0, 16) := by
  unfold makeF
  rw [if_neg (by decide)]
  have g : Nat.gcd c.natAbs (1 : Int).natAbs = 1 := by simp
  rw [g, Nat.div_one]
  by_cases h : inr c
  · rw [if_pos h]
    unfold inr at h
    unfold lowF
    rw [if_neg (by simp; omega)]
    by_cases hc : c < 0
    · simp [hc]; omega
    · simp [hc]; omega
  · rw [if_neg h]
    unfold inr at h
    exact lowF_great (.inl (by omega))
end Go.Proofs.YtpeoecgehdicmaaDoor
