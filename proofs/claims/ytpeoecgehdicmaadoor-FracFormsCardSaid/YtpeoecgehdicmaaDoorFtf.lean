/- Plain laws of layer 1: expansions and foldings are inverse. -/
import Derived.Test.YtpeoecgehdicmaaDoorFtd
import Derived.Test.YtpeoecgehdicmaaDoorFrn
namespace Go.Proofs.YtpeoecgehdicmaaDoor
set_option linter.unusedVariables false
theorem ex_cons {x y : Int} (h : 0 < y) : Farey.ex x y = (x / y) :: Farey.ex y (x % y) := Farey.ex_pos h
theorem ex_ne {x y : Int} (h : 0 < y) : Farey.ex x y ≠ [] := by rw [ex_cons h]; simp
theorem ex_one (x : Int) : Farey.ex x 1 = [x] := by rw [ex_cons (by decide), Int.ediv_one, Int.emod_one, Farey.ex_zero (by decide)]
structure ET (L : List Int) : Prop where
  ne : L ≠ []
  el : ∀ z ∈ L, 1 ≤ z ∧ z ≤ 1000000000000000000
  la : ∀ z, L.getLast? = some z → 2 ≤ z
theorem ex_tail : ∀ (k : Nat) (y r : Int), r ≤ k → 0 < r → r < y → y ≤ 1000000000000000000 → ET (Farey.ex y r) := by
  intro k
  induction k with
  | zero => intro y r h1 h2; omega
  | succ k ih =>
    intro y r h1 h2 h3 h4
    have q1 : 1 ≤ y / r := by
      rw [Int.le_ediv_iff_mul_le h2]; omega
    have q2 : y / r ≤ 1000000000000000000 := Int.le_trans (Int.ediv_le_self _ (by omega)) h4
    have m1 := Int.emod_nonneg y (show r ≠ 0 by omega)
    have m2 := Int.emod_lt_of_pos y h2
    rw [ex_cons h2]
    by_cases z : y % r = 0
    · rw [z, Farey.ex_zero (by decide)]
      refine ⟨by simp, fun t ht => ?_, fun t ht => ?_⟩
      · simp only [List.mem_singleton] at ht
        subst ht; exact ⟨q1, q2⟩
      · simp only [List.getLast?_singleton, Option.some.injEq] at ht
        subst ht
        have := Int.mul_ediv_add_emod y r
        rw [z] at this
        by_cases one : y / r = 1
        · rw [one] at this; omega
        · omega
    · obtain ⟨a, b, c⟩ := ih r (y % r) (by omega) (by omega) m2 (by omega)
      refine ⟨by simp, fun t ht => ?_, fun t ht => ?_⟩
      · rcases List.mem_cons.1 ht with rfl | h
        · exact ⟨q1, q2⟩
        · exact b t h
      · rw [List.getLast?_cons_of_ne_nil a] at ht
        exact c t ht
theorem gcd_mod {x y : Int} (h : Nat.gcd x.natAbs y.natAbs = 1) : Nat.gcd y.natAbs (x % y).natAbs = 1 := by
  have e : x = (x / y) * y + x % y := by rw [Int.mul_comm]; exact (Int.mul_ediv_add_emod x y).symm
  have a : ((Nat.gcd y.natAbs (x % y).natAbs : Nat) : Int) ∣ y := Int.ofNat_dvd_left.2 (Nat.gcd_dvd_left _ _)
  have b : ((Nat.gcd y.natAbs (x % y).natAbs : Nat) : Int) ∣ x % y := Int.ofNat_dvd_left.2 (Nat.gcd_dvd_right _ _)
  have c : ((Nat.gcd y.natAbs (x % y).natAbs : Nat) : Int) ∣ (x / y) * y + x % y := Int.dvd_add (Int.dvd_mul_of_dvd_right a) b
  rw [← e] at c
  exact Nat.eq_one_of_dvd_one (h ▸ Nat.dvd_gcd (Int.ofNat_dvd_left.1 c) (Int.ofNat_dvd_left.1 a))
theorem ediv_inr {x y : Int} (h : inr x) (hy : 0 < y) : inr (x / y) := by
  unfold inr at *
  have m1 := Int.emod_nonneg x (show y ≠ 0 by omega)
  have m2 := Int.emod_lt_of_pos x hy
  have e := Int.mul_ediv_add_emod x y
  constructor
  · rw [Int.le_ediv_iff_mul_le hy]
    have : (-1000000000000000000) * y ≤ -1000000000000000000 := by
      have := Int.mul_le_mul_of_nonneg_left (show 1 ≤ y by omega) (show (0 : Int) ≤ 1000000000000000000 by decide)
      rw [Int.mul_one] at this
      rw [Int.neg_mul]; omega
    omega
  · by_cases c : 0 ≤ x
    · exact Int.le_trans (Int.ediv_le_self _ c) h.2
    · have : x / y < 0 := Int.ediv_neg_of_neg_of_pos (by omega) hy
      omega
theorem fold_ex : ∀ (k : Nat) (x y : Int), y ≤ k → 0 < y → y ≤ 1000000000000000000 → inr x → Nat.gcd x.natAbs y.natAbs = 1 → foldF (Farey.ex x y) = (x, y, 0) := by
  intro k
  induction k with
  | zero => intro x y h1 h2; omega
  | succ k ih =>
    intro x y h1 h2 h3 h4 h5
    have m1 := Int.emod_nonneg x (show y ≠ 0 by omega)
    have m2 := Int.emod_lt_of_pos x h2
    have e := Int.mul_ediv_add_emod x y
    by_cases z : x % y = 0
    · have d : y.natAbs ∣ x.natAbs := Int.natAbs_dvd_natAbs.2 (Int.dvd_of_emod_eq_zero z)
      have : y.natAbs = 1 := Nat.eq_one_of_dvd_one (h5 ▸ Nat.dvd_gcd d (Nat.dvd_refl _))
      have y1 : y = 1 := by omega
      subst y1
      rw [ex_one]
      unfold foldF
      rw [if_pos h4]
    · have h := ih y (x % y) (by omega) (by omega) (by omega) ⟨by omega, by omega⟩ (gcd_mod h5)
      rw [ex_cons h2, foldF_cons (ex_ne (by omega)), h]
      simp only
      have e' : x / y * y + x % y = x := by rw [Int.mul_comm]; exact e
      rw [e', if_pos ⟨trivial, ediv_inr h4 h2, h4⟩]
/- what the law expects of a folded list -/
def wantF : List Int → List Int
  | [] => []
  | [a] => [a]
  | [a, b] => if b = 1 then [a + 1] else [a, b]
  | a :: b :: c :: r => a :: wantF (b :: c :: r)
theorem fold_step {c n d : Int} {r : List Int} (hr : r ≠ []) (h : foldF r = (n, d, 0)) {x y : Int} (hx : foldF (c :: r) = (x, y, 0)) : x = c * n + d ∧ y = n := by
  rw [foldF_cons hr, h] at hx
  simp only at hx
  split at hx
  · cases hx; exact ⟨rfl, rfl⟩
  · cases hx
theorem fold_some {c x y : Int} {r : List Int} (hr : r ≠ []) (hx : foldF (c :: r) = (x, y, 0)) : ∃ n d, foldF r = (n, d, 0) := by
  obtain ⟨⟨n, d, e⟩, he⟩ : ∃ z, foldF r = z := ⟨_, rfl⟩
  rw [foldF_cons hr, he] at hx
  simp only at hx
  split at hx
  · rename_i k
    obtain ⟨rfl, _⟩ := k
    exact ⟨n, d, he⟩
  · cases hx
theorem ex_div {a n d : Int} (hd : 0 ≤ d) (hn : d < n) : Farey.ex (a * n + d) n = a :: Farey.ex n d := by
  rw [ex_cons (by omega), Int.add_comm, Int.add_mul_ediv_right _ _ (by omega), Int.add_mul_emod_self_right, Int.ediv_eq_zero_of_lt hd hn, Int.emod_eq_of_lt hd hn, Int.zero_add]
theorem ex_fold : ∀ (l : List Int), (∀ z ∈ l.tail, 1 ≤ z) → ∀ x y, foldF l = (x, y, 0) → Farey.ex x y = wantF l
  | [], _, x, y, h => by cases h
  | [a], _, x, y, h => by
    unfold foldF at h
    split at h
    · cases h; exact ex_one a
    · cases h
  | [a, b], hp, x, y, h => by
    obtain ⟨n, d, h1⟩ := fold_some (by simp) h
    obtain ⟨rfl, rfl⟩ := fold_step (by simp) h1 h
    have hb : 1 ≤ b := hp b (by simp)
    unfold foldF at h1
    split at h1
    · cases h1
      unfold wantF
      by_cases one : b = 1
      · subst one
        rw [if_pos rfl, Int.mul_one, ex_one]
      · rw [if_neg one, ex_div (by omega) (by omega), ex_one]
    · cases h1
  | a :: b :: c :: r, hp, x, y, h => by
    obtain ⟨n, d, h1⟩ := fold_some (by simp) h
    obtain ⟨rfl, rfl⟩ := fold_step (by simp) h1 h
    obtain ⟨n', d', h2⟩ := fold_some (by simp) h1
    obtain ⟨e1, e2⟩ := fold_step (by simp) h2 h1
    have p : ∀ z ∈ c :: r, 1 ≤ z := fun z hz => hp z (by simp at hz ⊢; right; exact hz)
    obtain ⟨v, _⟩ := foldF_pos (c :: r) p n' d' h2
    have hb : 1 ≤ b := hp b (by simp)
    have v1 := v.d1
    obtain ⟨v2, le2⟩ := foldF_pos (c :: r) p n' d' h2
    have m : 1 * n' ≤ b * n' := Int.mul_le_mul_of_nonneg_right hb (by omega)
    have IH := ex_fold (b :: c :: r) (fun z hz => p z (by simpa using hz)) y d h1
    rw [ex_div (by omega) (by omega), IH]
    rfl
def wantM (l : List Int) : List Int := (l.set (l.length - 2) (l.getD (l.length - 2) 0 + 1)).take (l.length - 1)
theorem want_one : ∀ (l : List Int), 2 ≤ l.length → l.getD (l.length - 1) 0 = 1 → wantF l = wantM l
  | [], h, _ => by simp at h
  | [a], h, _ => by simp at h
  | [a, b], _, h => by
    simp at h
    subst h
    simp [wantF, wantM]
  | a :: b :: c :: r, _, h => by
    have ih := want_one (b :: c :: r) (by simp) (by simpa using h)
    rw [wantF, ih]
    simp [wantM]
    rw [List.getElem?_eq_getElem (by simp; omega)]
    rfl
theorem want_other : ∀ (l : List Int), (2 ≤ l.length → l.getD (l.length - 1) 0 ≠ 1) → wantF l = l
  | [], _ => rfl
  | [a], _ => rfl
  | [a, b], h => by
    have := h (by simp)
    simp at this
    unfold wantF
    rw [if_neg this]
  | a :: b :: c :: r, h => by
    rw [wantF, want_other (b :: c :: r) (fun _ => by simpa using h (by simp))]
end Go.Proofs.YtpeoecgehdicmaaDoor
