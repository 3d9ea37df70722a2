/- Plain laws of layer 1: numbers as the reference reads them. -/
import Derived.Test.YtpeoecgehdicmaaDoorFta
namespace Go.Proofs.YtpeoecgehdicmaaDoor
set_option linter.unusedVariables false
/- the digits' value, as the reference reckons it -/
def numL : List UInt8 → Nat → Option Nat
  | [], n => some n
  | c :: r, n => if c.toNat < 48 ∨ 57 < c.toNat ∨ 100000000000000000 < n then none else numL r (10 * n + (c.toNat - 48))
theorem num_spell : ∀ (l : List UInt8) (acc : Nat), (∀ c ∈ l, 48 ≤ c.toNat ∧ c.toNat ≤ 57) → spell acc l ≤ 1000000000000000000 → numL l acc = some (spell acc l)
  | [], acc, _, _ => rfl
  | c :: l, acc, hd, hs => by
    have h1 := hd c (by simp)
    rw [spell_cons] at hs ⊢
    have h2 := spell_ge l (acc * 10 + (c.toNat - 48))
    unfold numL
    rw [if_neg (by omega), Nat.mul_comm 10 acc]
    exact num_spell l _ (fun x hx => hd x (by simp [hx])) hs
theorem num_dec {u : Nat} (h : u ≤ 1000000000000000000) : numL (Lib.decDigits u) 0 = some u := by
  have hs := spell_dec (u + 1) u (by omega)
  rw [num_spell _ _ (dec_digit (u + 1) u (by omega)) (by rw [hs]; omega), hs]
def negL (l : List UInt8) : Bool := match l with | c :: _ => c.toNat == 45 | [] => false
def bodyL (l : List UInt8) : List UInt8 := if negL l then l.tail else l
theorem itoa_neg' {n : Int} (h : n < 0) : Lib.itoa n = 45 :: Lib.decDigits n.natAbs := by unfold Lib.itoa; rw [if_pos h]
theorem itoa_pos' {n : Int} (h : ¬ n < 0) : Lib.itoa n = Lib.decDigits n.toNat := by unfold Lib.itoa; rw [if_neg h]
theorem negL_itoa (n : Int) : negL (Lib.itoa n) = decide (n < 0) := by
  by_cases h : n < 0
  · rw [itoa_neg' h, decide_eq_true h]; rfl
  · rw [itoa_pos' h, decide_eq_false h]
    have dg := dec_digit (n.toNat + 1) n.toNat (by omega)
    cases hl : Lib.decDigits n.toNat with
    | nil => rfl
    | cons c r =>
      rw [hl] at dg
      have := dg c (by simp)
      unfold negL
      rw [beq_eq_false_iff_ne]
      omega
theorem bodyL_itoa (n : Int) : bodyL (Lib.itoa n) = Lib.decDigits n.natAbs := by
  unfold bodyL
  rw [negL_itoa]
  by_cases h : n < 0
  · rw [decide_eq_true h, itoa_neg' h]; rfl
  · rw [decide_eq_false h, itoa_pos' h]
    simp only [Bool.false_eq_true, if_false]
    congr 1
    omega
theorem dec_len : ∀ (k u : Nat), u < 10 ^ (k + 1) → (Lib.decDigits u).length ≤ k + 1 := by
  intro k
  induction k with
  | zero => intro u hu; rw [dec_small (by simpa using hu)]; simp
  | succ k ih =>
    intro u hu
    by_cases h : u < 10
    · rw [dec_small h]; simp
    · rw [dec_big h, List.length_append]
      have := ih (u / 10) (by rw [Nat.pow_succ] at hu; omega)
      simp; omega
theorem itoa_len {n : Int} (h1 : -1000000000000000000 ≤ n) (h2 : n ≤ 1000000000000000000) : 0 < (Lib.itoa n).length ∧ (Lib.itoa n).length ≤ 20 := by
  by_cases h : n < 0
  · rw [itoa_neg' h]
    have := dec_len 18 n.natAbs (by omega)
    simp; omega
  · rw [itoa_pos' h]
    have := dec_len 18 n.toNat (by omega)
    have := List.length_pos_iff.2 (dec_ne n.toNat)
    omega
/- a number that is read, or none -/
def NR (l : List UInt8) (v : Int) (b : Bool) : Prop :=
  (b = true ∧ -1000000000000000000 ≤ v ∧ v ≤ 1000000000000000000 ∧ Lib.itoa v = l) ∨ (b = false ∧ ∀ n, -1000000000000000000 ≤ n → n ≤ 1000000000000000000 → Lib.itoa n ≠ l)
theorem NR.long {l : List UInt8} (h : l.length = 0 ∨ 20 < l.length) (v : Int) : NR l v false := .inr ⟨rfl, fun n h1 h2 e => by have := itoa_len h1 h2; rw [e] at this; omega⟩
theorem NR.odd {l : List UInt8} (h : numL (bodyL l) 0 = none) (v : Int) : NR l v false := .inr ⟨rfl, fun n h1 h2 e => by
  rw [← e, bodyL_itoa, num_dec (by omega)] at h; cases h⟩
def sgn (b : Bool) (m : Nat) : Int := if b then -(m : Int) else m
theorem NR.val {l : List UInt8} {m : Nat} (h : numL (bodyL l) 0 = some m) : NR l (sgn (negL l) m) (decide (-1000000000000000000 ≤ sgn (negL l) m) && (decide (sgn (negL l) m ≤ 1000000000000000000) && (Lib.itoa (sgn (negL l) m) == l))) := by
  by_cases c1 : -1000000000000000000 ≤ sgn (negL l) m
  rotate_left
  · rw [decide_eq_false c1]
    refine .inr ⟨rfl, fun n h1 h2 e => ?_⟩
    rw [← e, bodyL_itoa, num_dec (by omega)] at h
    cases h
    rw [← e, negL_itoa] at c1
    unfold sgn at c1
    split at c1 <;> omega
  by_cases c2 : sgn (negL l) m ≤ 1000000000000000000
  rotate_left
  · rw [decide_eq_true c1, decide_eq_false c2]
    refine .inr ⟨rfl, fun n h1 h2 e => ?_⟩
    rw [← e, bodyL_itoa, num_dec (by omega)] at h
    cases h
    rw [← e, negL_itoa] at c2
    unfold sgn at c2
    split at c2 <;> omega
  rw [decide_eq_true c1, decide_eq_true c2]
  by_cases c3 : Lib.itoa (sgn (negL l) m) = l
  · exact .inl ⟨by rw [Bool.true_and, Bool.true_and, beq_iff_eq]; exact c3, c1, c2, c3⟩
  · refine .inr ⟨by rw [Bool.true_and, Bool.true_and, beq_eq_false_iff_ne]; exact c3, fun n h1 h2 e => ?_⟩
    have h' := h
    rw [← e, bodyL_itoa, num_dec (by omega)] at h'
    cases h'
    apply c3
    rw [← e]
    congr 1
    rw [negL_itoa]
    unfold sgn
    by_cases hn : n < 0
    · rw [decide_eq_true hn]; simp; omega
    · rw [decide_eq_false hn]; simp; omega
/- what a text reads as, by its two parts -/
theorem cut_split (l : List UInt8) (k : Nat) (h : ∀ (j : Nat) (c : UInt8), j < k → l[j]? = some c → c.toNat ≠ 47) (hk : k < l.length → ∃ c, l[k]? = some c ∧ c.toNat = 47) (hl : k ≤ l.length) :
    Lib.cut l [47] = (l.take k, l.drop (k + 1), decide (k < l.length)) := by
  have no : ∀ x ∈ l.take k, x ≠ 47 := fun x hx e => by
    obtain ⟨j, hj, rfl⟩ := List.mem_iff_getElem.1 hx
    have hj' : j < k := by rw [List.length_take] at hj; omega
    rw [List.getElem_take] at e
    exact h j l[j] hj' (List.getElem?_eq_getElem (by omega)) (by rw [e]; rfl)
  by_cases c : k < l.length
  · obtain ⟨b, hb, b47⟩ := hk c
    have e : l = l.take k ++ 47 :: l.drop (k + 1) := by
      have hb' : b = 47 := UInt8.toNat_inj.1 b47
      subst hb'
      obtain ⟨h1, h2⟩ := List.getElem?_eq_some_iff.1 hb
      have := List.drop_eq_getElem_cons h1
      rw [h2] at this
      rw [← this, List.take_append_drop]
    have := cut_at (l := l.take k) (r := l.drop (k + 1)) no
    rw [← e] at this
    rw [this, decide_eq_true c]
  · have e : k = l.length := by omega
    subst e
    rw [List.take_length] at no ⊢
    rw [cut_none no, List.drop_eq_nil_of_le (by omega), decide_eq_false c]
theorem PR.cut0 {l l1 l2 : List UInt8} {n : Int} {b : Bool} (hc : Lib.cut l [47] = (l1, l2, false)) (h1 : NR l1 n b) (hl : l1 = l) : PR l (if b = true ∧ errF n 1 = 0 then (n, 1, 0) else (0, 0, 12)) := by
  subst hl
  by_cases h : b = true ∧ errF n 1 = 0
  · rw [if_pos h]
    refine .inl ⟨rfl, errF_ok h.2, ?_⟩
    rcases h1 with ⟨_, _, _, e⟩ | ⟨e, _⟩
    · unfold textL; rw [if_pos rfl]; exact e
    · rw [e] at h; exact absurd h.1 (by decide)
  · rw [if_neg h]
    refine .inr ⟨rfl, fun m d v e => h ?_⟩
    rw [← e, cut_text] at hc
    simp only [Prod.mk.injEq, Bool.not_eq_false', decide_eq_true_eq] at hc
    obtain ⟨e1, _, rfl⟩ := hc
    have im : Lib.itoa m = l1 := e1.trans e
    rcases h1 with ⟨hb, _, _, e2⟩ | ⟨_, e2⟩
    · have vm := parseI_itoa (n := m) (by have := v.n1; omega) (by have := v.n2; omega)
      have vn := parseI_itoa (n := n) (by omega) (by omega)
      rw [im, ← e2, vn] at vm
      cases vm
      exact ⟨hb, v.err⟩
    · exact absurd im (e2 m v.n1 v.n2)
theorem PR.cut1 {l l1 l2 : List UInt8} {n d : Int} {b b' : Bool} (hc : Lib.cut l [47] = (l1, l2, true)) (h1 : NR l1 n b) (h2 : NR l2 d b') (hl : l1 ++ 47 :: l2 = l) : PR l (if (b = true ∧ b' = true ∧ 1 < d) ∧ errF n d = 0 then (n, d, 0) else (0, 0, 12)) := by
  by_cases h : (b = true ∧ b' = true ∧ 1 < d) ∧ errF n d = 0
  · rw [if_pos h]
    refine .inl ⟨rfl, errF_ok h.2, ?_⟩
    rcases h1 with ⟨_, _, _, e⟩ | ⟨e, _⟩
    · rcases h2 with ⟨_, _, _, e'⟩ | ⟨e', _⟩
      · have hd := h.1.2.2
        unfold textL; rw [if_neg (show ¬ d = 1 by omega)]; rw [e, e', hl]
      · rw [e'] at h; exact absurd h.1.2.1 (by decide)
    · rw [e] at h; exact absurd h.1.1 (by decide)
  · rw [if_neg h]
    refine .inr ⟨rfl, fun m k v e => h ?_⟩
    rw [← e, cut_text] at hc
    simp only [Prod.mk.injEq, Bool.not_eq_true', decide_eq_false_iff_not] at hc
    obtain ⟨e1, e2, hk⟩ := hc
    rw [if_neg hk] at e2
    have d1 := v.d1
    rcases h1 with ⟨hb, _, _, f1⟩ | ⟨_, f1⟩
    · rcases h2 with ⟨hb', _, _, f2⟩ | ⟨_, f2⟩
      · have vm := parseI_itoa (n := m) (by have := v.n1; omega) (by have := v.n2; omega)
        have vn := parseI_itoa (n := n) (by omega) (by omega)
        have vk := parseI_itoa (n := k) (by omega) (by have := v.d2; omega)
        have vd := parseI_itoa (n := d) (by omega) (by omega)
        rw [e1, ← f1, vn] at vm
        rw [e2, ← f2, vd] at vk
        cases vm; cases vk
        exact ⟨⟨hb, hb', by omega⟩, v.err⟩
      · exact absurd e2 (f2 k (by omega) v.d2)
    · exact absurd e1 (f1 m v.n1 v.n2)
end Go.Proofs.YtpeoecgehdicmaaDoor
