/- Plain arithmetic of the field of 256 elements: products as the program and as the reference compute them agree, and they form a field. No program is in sight here. -/
namespace Go.Proofs.Ytmpmeeacdllomaa.Gf
set_option maxRecDepth 100000

def xt (p : Nat) : Nat := if 256 ≤ 2 * p then (2 * p) ^^^ 285 else 2 * p
def mulTo (a b : Nat) : Nat → Nat × Nat
  | 0 => (a, 0)
  | k + 1 => (xt (mulTo a b k).1, if b / 2 ^ k % 2 = 1 then (mulTo a b k).2 ^^^ (mulTo a b k).1 else (mulTo a b k).2)
def refTo (a b : Nat) : Nat → Nat
  | 0 => 0
  | j + 1 => if b / 2 ^ (7 - j) % 2 = 1 then xt (refTo a b j) ^^^ a else xt (refTo a b j)
def gm (a b : Nat) : Nat := (mulTo a b 8).2

theorem xor_lt {a b : Nat} (ha : a < 256) (hb : b < 256) : a ^^^ b < 256 := Nat.xor_lt_two_pow (n := 8) ha hb
theorem xt_lt {p : Nat} (h : p < 256) : xt p < 256 := by
  have : ∀ p < 256, xt p < 256 := by decide +kernel
  exact this p h
theorem xt_xor {x y : Nat} (hx : x < 256) (hy : y < 256) : xt (x ^^^ y) = xt x ^^^ xt y := by
  have : ∀ x < 256, ∀ y < 256, xt (x ^^^ y) = xt x ^^^ xt y := by decide +kernel
  exact this x hx y hy
theorem xt_zero : xt 0 = 0 := rfl
theorem mulTo_lt {a b : Nat} (ha : a < 256) (k : Nat) : (mulTo a b k).1 < 256 ∧ (mulTo a b k).2 < 256 := by
  induction k with
  | zero => exact ⟨ha, by simp [mulTo]⟩
  | succ k ih =>
    refine ⟨xt_lt ih.1, ?_⟩
    simp only [mulTo]; split
    · exact xor_lt ih.2 ih.1
    · exact ih.2
theorem refTo_lt {a b : Nat} (ha : a < 256) (k : Nat) : refTo a b k < 256 := by
  induction k with
  | zero => simp [refTo]
  | succ k ih =>
    simp only [refTo]; split
    · exact xor_lt (xt_lt ih) ha
    · exact xt_lt ih
theorem gm_lt {a b : Nat} (ha : a < 256) : gm a b < 256 := (mulTo_lt ha 8).2

/- xt iterated. -/
def xp (a : Nat) : Nat → Nat
  | 0 => a
  | k + 1 => xt (xp a k)
theorem xp_lt {a : Nat} (ha : a < 256) (k : Nat) : xp a k < 256 := by
  induction k with
  | zero => exact ha
  | succ k ih => exact xt_lt ih
theorem xp_xor {a b : Nat} (ha : a < 256) (hb : b < 256) (k : Nat) : xp (a ^^^ b) k = xp a k ^^^ xp b k := by
  induction k with
  | zero => rfl
  | succ k ih => simp only [xp]; rw [ih, xt_xor (xp_lt ha k) (xp_lt hb k)]
theorem xp_zero (k : Nat) : xp 0 k = 0 := by
  induction k with
  | zero => rfl
  | succ k ih => simp only [xp]; rw [ih]; rfl
/- the bit's share -/
def sh (b k a : Nat) : Nat := if b / 2 ^ k % 2 = 1 then a else 0
theorem sh_lt {a : Nat} (b k : Nat) (ha : a < 256) : sh b k a < 256 := by unfold sh; split <;> omega
theorem xp_sh (b i a k : Nat) : xp (sh b i a) k = sh b i (xp a k) := by
  unfold sh; split
  · rfl
  · exact xp_zero k
theorem mulTo_fst (a b k : Nat) : (mulTo a b k).1 = xp a k := by
  induction k with
  | zero => rfl
  | succ k ih => simp only [mulTo, xp, ih]
def sumTo (a b : Nat) : Nat → Nat
  | 0 => 0
  | k + 1 => sumTo a b k ^^^ sh b k (xp a k)
theorem mulTo_snd (a b k : Nat) : (mulTo a b k).2 = sumTo a b k := by
  induction k with
  | zero => rfl
  | succ k ih =>
    simp only [mulTo, sumTo, ih, mulTo_fst, sh]
    split
    · rfl
    · simp
theorem refTo_eq (a b j : Nat) : refTo a b (j + 1) = xt (refTo a b j) ^^^ sh b (7 - j) a := by
  simp only [refTo, sh]
  split
  · rfl
  · simp
theorem ref_eq {a : Nat} (b : Nat) (ha : a < 256) : refTo a b 8 = gm a b := by
  have L := fun k => sh_lt b k ha
  unfold gm; rw [mulTo_snd]
  rw [refTo_eq a b 7, refTo_eq a b 6, refTo_eq a b 5, refTo_eq a b 4, refTo_eq a b 3, refTo_eq a b 2, refTo_eq a b 1, refTo_eq a b 0]
  have X : ∀ {x y : Nat}, x < 256 → y < 256 → xt (x ^^^ y) = xt x ^^^ xt y := fun hx hy => xt_xor hx hy
  show xt (xt (xt (xt (xt (xt (xt (xt 0 ^^^ sh b 7 a) ^^^ sh b 6 a) ^^^ sh b 5 a) ^^^ sh b 4 a) ^^^ sh b 3 a) ^^^ sh b 2 a) ^^^ sh b 1 a) ^^^ sh b 0 a = _
  simp only [xt_zero, Nat.zero_xor]
  simp (discharger := (repeat (first | exact L _ | apply xor_lt | apply xt_lt))) only [X]
  have E : ∀ i, xt (sh b i a) = sh b i (xp a 1) := fun i => xp_sh b i a 1
  have E2 : ∀ i k, xt (sh b i (xp a k)) = sh b i (xp a (k + 1)) := fun i k => xp_sh b i (xp a k) 1
  simp only [E, E2, sumTo, Nat.zero_xor]
  show _ = sh b 0 a ^^^ sh b 1 (xp a 1) ^^^ sh b 2 (xp a 2) ^^^ sh b 3 (xp a 3) ^^^ sh b 4 (xp a 4) ^^^ sh b 5 (xp a 5) ^^^ sh b 6 (xp a 6) ^^^ sh b 7 (xp a 7)
  ac_rfl

/- linear in the first argument -/
theorem sh_xor (b k x y : Nat) : sh b k (x ^^^ y) = sh b k x ^^^ sh b k y := by
  unfold sh; split <;> simp
theorem sumTo_xor {x y : Nat} (b : Nat) (hx : x < 256) (hy : y < 256) (k : Nat) : sumTo (x ^^^ y) b k = sumTo x b k ^^^ sumTo y b k := by
  induction k with
  | zero => simp [sumTo]
  | succ k ih =>
    simp only [sumTo]
    rw [ih, xp_xor hx hy, sh_xor]; ac_rfl
theorem gm_xor_left {x y : Nat} (b : Nat) (hx : x < 256) (hy : y < 256) : gm (x ^^^ y) b = gm x b ^^^ gm y b := by
  unfold gm; rw [mulTo_snd, mulTo_snd, mulTo_snd]; exact sumTo_xor b hx hy 8
/- linear in the second -/
theorem sh_xor_bit (b c k a : Nat) : sh (b ^^^ c) k a = sh b k a ^^^ sh c k a := by
  have h : ∀ n : Nat, (n / 2 ^ k % 2 = 1) ↔ n.testBit k = true := by
    intro n; rw [Nat.testBit_eq_decide_div_mod_eq]; simp
  unfold sh
  simp only [h, Nat.testBit_xor]
  cases b.testBit k <;> cases c.testBit k <;> simp
theorem gm_xor_right (a b c : Nat) : gm a (b ^^^ c) = gm a b ^^^ gm a c := by
  unfold gm; rw [mulTo_snd, mulTo_snd, mulTo_snd]
  have : ∀ k, sumTo a (b ^^^ c) k = sumTo a b k ^^^ sumTo a c k := by
    intro k
    induction k with
    | zero => simp [sumTo]
    | succ k ih => simp only [sumTo]; rw [ih, sh_xor_bit]; ac_rfl
  exact this 8
theorem gm_zero_left (b : Nat) : gm 0 b = 0 := by
  have := gm_xor_left (x := 0) (y := 0) b (by omega) (by omega)
  simpa using this
theorem gm_zero_right (a : Nat) : gm a 0 = 0 := by
  have := gm_xor_right a 0 0
  simpa using this
/- an additive function is known by its values at the powers of two -/
theorem bits8 : ∀ x < 256, x = (if x / 1 % 2 = 1 then 1 else 0) ^^^ (if x / 2 % 2 = 1 then 2 else 0) ^^^ (if x / 4 % 2 = 1 then 4 else 0) ^^^ (if x / 8 % 2 = 1 then 8 else 0) ^^^ (if x / 16 % 2 = 1 then 16 else 0) ^^^ (if x / 32 % 2 = 1 then 32 else 0) ^^^ (if x / 64 % 2 = 1 then 64 else 0) ^^^ (if x / 128 % 2 = 1 then 128 else 0) := by decide +kernel
theorem additive_ext {f g : Nat → Nat} (hf : ∀ x y, x < 256 → y < 256 → f (x ^^^ y) = f x ^^^ f y) (hg : ∀ x y, x < 256 → y < 256 → g (x ^^^ y) = g x ^^^ g y)
    (h1 : f 1 = g 1) (h2 : f 2 = g 2) (h4 : f 4 = g 4) (h8 : f 8 = g 8) (h16 : f 16 = g 16) (h32 : f 32 = g 32) (h64 : f 64 = g 64) (h128 : f 128 = g 128) :
    ∀ x, x < 256 → f x = g x := by
  intro x hx
  have f0 : f 0 = 0 := by have := hf 0 0 (by omega) (by omega); simpa using this
  have g0 : g 0 = 0 := by have := hg 0 0 (by omega) (by omega); simpa using this
  have step : ∀ (c : Prop) [Decidable c] (u : Nat), f u = g u → f (if c then u else 0) = g (if c then u else 0) := by
    intro c _ u hu; split
    · exact hu
    · rw [f0, g0]
  have B : ∀ (c : Prop) [Decidable c] (u : Nat), u < 256 → (if c then u else 0) < 256 := by
    intro c _ u hu; split <;> omega
  have add : ∀ x y, x < 256 → y < 256 → f x = g x → f y = g y → f (x ^^^ y) = g (x ^^^ y) := by
    intro x y hx hy e1 e2; rw [hf x y hx hy, hg x y hx hy, e1, e2]
  rw [bits8 x hx]
  refine add _ _ ?_ (B _ _ (by omega)) ?_ (step _ _ h128)
  · repeat (first | exact B _ _ (by omega) | apply xor_lt)
  refine add _ _ ?_ (B _ _ (by omega)) ?_ (step _ _ h64)
  · repeat (first | exact B _ _ (by omega) | apply xor_lt)
  refine add _ _ ?_ (B _ _ (by omega)) ?_ (step _ _ h32)
  · repeat (first | exact B _ _ (by omega) | apply xor_lt)
  refine add _ _ ?_ (B _ _ (by omega)) ?_ (step _ _ h16)
  · repeat (first | exact B _ _ (by omega) | apply xor_lt)
  refine add _ _ ?_ (B _ _ (by omega)) ?_ (step _ _ h8)
  · repeat (first | exact B _ _ (by omega) | apply xor_lt)
  refine add _ _ ?_ (B _ _ (by omega)) ?_ (step _ _ h4)
  · repeat (first | exact B _ _ (by omega) | apply xor_lt)
  exact add _ _ (B _ _ (by omega)) (B _ _ (by omega)) (step _ _ h1) (step _ _ h2)
def pw : List Nat := [1, 2, 4, 8, 16, 32, 64, 128]
theorem comm_base : ∀ x ∈ pw, ∀ y ∈ pw, gm x y = gm y x := by decide +kernel
theorem gm_comm {a b : Nat} (ha : a < 256) (hb : b < 256) : gm a b = gm b a := by
  have base : ∀ y ∈ pw, ∀ x, x < 256 → gm x y = gm y x := by
    intro y hy
    have hy' : y < 256 := by revert y; decide
    apply additive_ext (f := fun x => gm x y) (g := fun x => gm y x) (fun x z hx hz => gm_xor_left y hx hz) (fun x z _ _ => gm_xor_right y x z)
    all_goals exact comm_base _ (by decide) _ hy
  apply additive_ext (f := fun b => gm a b) (g := fun b => gm b a) (fun x z _ _ => gm_xor_right a x z) (fun x z hx hz => gm_xor_left a hx hz) _ _ _ _ _ _ _ _ b hb
  all_goals exact base _ (by decide) a ha
theorem assoc_base : ∀ x ∈ pw, ∀ y ∈ pw, ∀ z ∈ pw, gm (gm x y) z = gm x (gm y z) := by decide +kernel
theorem gm_assoc {a b c : Nat} (ha : a < 256) (hb : b < 256) (hc : c < 256) : gm (gm a b) c = gm a (gm b c) := by
  have pwl : ∀ y ∈ pw, y < 256 := by decide
  have b1 : ∀ y ∈ pw, ∀ z ∈ pw, ∀ x, x < 256 → gm (gm x y) z = gm x (gm y z) := by
    intro y hy z hz
    apply additive_ext (f := fun x => gm (gm x y) z) (g := fun x => gm x (gm y z))
      (fun x u hx hu => by simp only [gm_xor_left y hx hu, gm_xor_left z (gm_lt hx) (gm_lt hu)]) (fun x u hx hu => gm_xor_left _ hx hu)
    all_goals exact assoc_base _ (by decide) _ hy _ hz
  have b2 : ∀ z ∈ pw, ∀ x, x < 256 → ∀ y, y < 256 → gm (gm x y) z = gm x (gm y z) := by
    intro z hz x hx
    apply additive_ext (f := fun y => gm (gm x y) z) (g := fun y => gm x (gm y z))
      (fun y u hy hu => by simp only [gm_xor_right x y u, gm_xor_left z (gm_lt hx) (gm_lt hx)]) (fun y u hy hu => by simp only [gm_xor_left z hy hu, gm_xor_right])
    all_goals exact b1 _ (by decide) _ hz x hx
  apply additive_ext (f := fun z => gm (gm a b) z) (g := fun z => gm a (gm b z)) (fun y u _ _ => gm_xor_right _ y u) (fun y u _ _ => by simp only [gm_xor_right]) _ _ _ _ _ _ _ _ c hc
  all_goals exact b2 _ (by decide) a ha b hb
theorem gm_one_right {a : Nat} (ha : a < 256) : gm a 1 = a := by
  have : ∀ a < 256, gm a 1 = a := by decide +kernel
  exact this a ha
theorem gm_one_left {a : Nat} (ha : a < 256) : gm 1 a = a := by rw [gm_comm (by omega) ha, gm_one_right ha]
/- the program's inverse -/
def invTo (a : Nat) : Nat → Nat × Nat
  | 0 => (1, a)
  | k + 1 => (gm (invTo a k).1 (gm (invTo a k).2 (invTo a k).2), gm (invTo a k).2 (invTo a k).2)
def gi (a : Nat) : Nat := (invTo a 7).1
theorem invTo_lt {a : Nat} (ha : a < 256) (k : Nat) : (invTo a k).1 < 256 ∧ (invTo a k).2 < 256 := by
  induction k with
  | zero => exact ⟨by simp [invTo], ha⟩
  | succ k ih =>
    simp only [invTo]
    exact ⟨gm_lt ih.1, gm_lt ih.2⟩
theorem gi_lt {a : Nat} (ha : a < 256) : gi a < 256 := (invTo_lt ha 7).1
theorem gm_gi {a : Nat} (h0 : a ≠ 0) (ha : a < 256) : gm a (gi a) = 1 := by
  have : ∀ a < 256, a ≠ 0 → gm a (gi a) = 1 := by decide +kernel
  exact this a ha h0
theorem gi_pos {a : Nat} (h0 : a ≠ 0) (ha : a < 256) : 1 ≤ gi a := by
  have h := gm_gi h0 ha
  rcases Nat.eq_zero_or_pos (gi a) with e | e
  · rw [e, gm_zero_right] at h; exact absurd h (by decide)
  · exact e
theorem gm_cancel {a b c : Nat} (h0 : a ≠ 0) (ha : a < 256) (hb : b < 256) (hc : c < 256) (h : gm a b = gm a c) : b = c := by
  have e : gm (gi a) (gm a b) = gm (gi a) (gm a c) := by rw [h]
  rw [← gm_assoc (gi_lt ha) ha hb, ← gm_assoc (gi_lt ha) ha hc, gm_comm (gi_lt ha) ha, gm_gi h0 ha, gm_one_left hb, gm_one_left hc] at e
  exact e
theorem gi_unique {a b : Nat} (h0 : a ≠ 0) (ha : a < 256) (hb : b < 256) (h : gm a b = 1) : b = gi a :=
  gm_cancel h0 ha hb (gi_lt ha) (by rw [h, gm_gi h0 ha])
theorem gm_eq_zero {a b : Nat} (ha : a < 256) (hb : b < 256) : gm a b = 0 ↔ a = 0 ∨ b = 0 := by
  constructor
  · intro h
    by_cases h0 : a = 0
    · exact .inl h0
    · exact .inr (gm_cancel h0 ha hb (by omega) (by rw [h, gm_zero_right]))
  · rintro (h | h)
    · rw [h, gm_zero_left]
    · rw [h, gm_zero_right]
theorem gi_gi {a : Nat} (h0 : a ≠ 0) (ha : a < 256) : gi (gi a) = a := by
  have hp := gi_pos h0 ha
  exact (gi_unique (by omega) (gi_lt ha) ha (by rw [gm_comm (gi_lt ha) ha, gm_gi h0 ha])).symm
end Go.Proofs.Ytmpmeeacdllomaa.Gf
