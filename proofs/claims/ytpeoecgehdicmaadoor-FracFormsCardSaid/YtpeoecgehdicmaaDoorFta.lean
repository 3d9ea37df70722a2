/- Plain laws of layer 1: texts of fractions: decimal numerals are read back, and a text is cut at its one stroke. -/
import Derived.Test.YtpeoecgehdicmaaDoorFrj
import Derived.Lib.ItoaNum
import Derived.Lib.ItoaMem
import Derived.Lib.ItoaLen
import Derived.Lib.ParseIntB
import Derived.Lib.IndexMore
import Derived.Lib.IndexBytes
import Derived.Lib.IndexLaws
namespace Go.Proofs.YtpeoecgehdicmaaDoor
open Go
set_option linter.unusedVariables false
theorem dec_small {u : Nat} (h : u < 10) : Lib.decDigits u = [UInt8.ofNat (48 + u)] := by rw [Lib.decDigits, dif_pos h]
theorem dec_big {u : Nat} (h : ¬ u < 10) : Lib.decDigits u = Lib.decDigits (u / 10) ++ [UInt8.ofNat (48 + u % 10)] := by rw [Lib.decDigits, dif_neg h]
theorem dig_nat {k : Nat} (h : k < 10) : (UInt8.ofNat (48 + k)).toNat = 48 + k := by
  rw [UInt8.toNat_ofNat']; omega
/- each byte of a numeral is a digit -/
theorem dec_digit : ∀ (n u : Nat), u < n → ∀ c ∈ Lib.decDigits u, 48 ≤ c.toNat ∧ c.toNat ≤ 57 := by
  intro n
  induction n with
  | zero => intro u h; omega
  | succ n ih =>
    intro u h c hc
    by_cases hu : u < 10
    · rw [dec_small hu] at hc
      simp only [List.mem_singleton] at hc
      subst hc
      rw [dig_nat hu]; omega
    · rw [dec_big hu] at hc
      rcases List.mem_append.1 hc with h1 | h1
      · exact ih (u / 10) (by omega) c h1
      · simp only [List.mem_singleton] at h1
        subst h1
        rw [dig_nat (by omega)]; omega
theorem dec_ne (u : Nat) : Lib.decDigits u ≠ [] := by
  by_cases hu : u < 10
  · rw [dec_small hu]; simp
  · rw [dec_big hu]; simp
/- what digits spell -/
def spell (acc : Nat) (l : List UInt8) : Nat := l.foldl (fun a c => a * 10 + (c.toNat - 48)) acc
theorem spell_cons (acc : Nat) (c : UInt8) (l : List UInt8) : spell acc (c :: l) = spell (acc * 10 + (c.toNat - 48)) l := by unfold spell; rw [List.foldl_cons]
theorem spell_snoc (acc : Nat) (l : List UInt8) (c : UInt8) : spell acc (l ++ [c]) = spell acc l * 10 + (c.toNat - 48) := by unfold spell; rw [List.foldl_append, List.foldl_cons, List.foldl_nil]
theorem spell_ge : ∀ (l : List UInt8) (acc : Nat), acc ≤ spell acc l
  | [], acc => Nat.le_refl _
  | c :: l, acc => by
    rw [spell_cons]
    exact Nat.le_trans (by omega) (spell_ge l (acc * 10 + (c.toNat - 48)))
theorem spell_dec : ∀ (n u : Nat), u < n → spell 0 (Lib.decDigits u) = u := by
  intro n
  induction n with
  | zero => intro u h; omega
  | succ n ih =>
    intro u h
    by_cases hu : u < 10
    · rw [dec_small hu, show [UInt8.ofNat (48 + u)] = [] ++ [UInt8.ofNat (48 + u)] from rfl, spell_snoc, dig_nat hu]
      simp [spell]
    · rw [dec_big hu, spell_snoc, ih (u / 10) (by omega), dig_nat (by omega)]
      omega
theorem parseU_spell {M : Nat} (hM : M = 18446744073709551615) : ∀ (l : List UInt8) (acc : Nat), (∀ c ∈ l, 48 ≤ c.toNat ∧ c.toNat ≤ 57) → spell acc l ≤ M → Lib.parseUintM M acc l = .ok (spell acc l)
  | [], acc, _, _ => rfl
  | c :: l, acc, hd, hs => by
    have h1 := hd c (by simp)
    rw [spell_cons] at hs ⊢
    have h2 := spell_ge l (acc * 10 + (c.toNat - 48))
    unfold Lib.parseUintM
    rw [if_pos h1, if_neg (by omega), if_neg (by omega)]
    exact parseU_spell hM l _ (fun x hx => hd x (by simp [hx])) hs
theorem parseI_minus {r : List UInt8} {u : Nat} (h : Lib.parseUintB 64 r = .ok u) (hu : u ≤ 9223372036854775808) : Lib.parseIntB 64 (45 :: r) = .ok (-(u : Int)) := by
  unfold Lib.parseIntB
  have e : (if (45 : UInt8).toNat = 43 ∨ (45 : UInt8).toNat = 45 then r else 45 :: r) = r := if_pos (.inr rfl)
  simp only [e, h]
  have n : (45 : UInt8).toNat = 45 := rfl
  rw [if_neg (fun k => k.1 n), if_neg (fun k => by have := k.2; rw [show (2 : Nat) ^ (64 - 1) = 9223372036854775808 from rfl] at this; omega), if_pos n]
theorem parseI_plain {c : UInt8} {r : List UInt8} {u : Nat} (hc : 48 ≤ c.toNat) (h : Lib.parseUintB 64 (c :: r) = .ok u) (hu : u < 9223372036854775808) : Lib.parseIntB 64 (c :: r) = .ok (u : Int) := by
  unfold Lib.parseIntB
  have e : (if c.toNat = 43 ∨ c.toNat = 45 then r else c :: r) = c :: r := if_neg (by omega)
  simp only [e, h]
  rw [if_neg (fun k => by have := k.2; rw [show (2 : Nat) ^ (64 - 1) = 9223372036854775808 from rfl] at this; omega), if_neg (fun k => by have := k.1; omega), if_neg (by omega)]
theorem parseI_itoa {n : Int} (h1 : -9223372036854775808 ≤ n) (h2 : n ≤ 9223372036854775807) : Lib.parseIntB 64 (Lib.itoa n) = .ok n := by
  have U : ∀ u : Nat, u ≤ 9223372036854775808 → Lib.parseUintB 64 (Lib.decDigits u) = .ok u := fun u hu => by
    unfold Lib.parseUintB
    have hs := spell_dec (u + 1) u (by omega)
    rw [if_neg (dec_ne u), parseU_spell (by decide) _ _ (dec_digit (u + 1) u (by omega)) (by rw [hs]; omega), hs]
  by_cases hn : n < 0
  · have e : Lib.itoa n = 45 :: Lib.decDigits n.natAbs := by unfold Lib.itoa; rw [if_pos hn]
    rw [e, parseI_minus (U n.natAbs (by omega)) (by omega)]
    congr 1; omega
  · have e : Lib.itoa n = Lib.decDigits n.toNat := by unfold Lib.itoa; rw [if_neg hn]
    rw [e]
    have u := U n.toNat (by omega)
    have dg := dec_digit (n.toNat + 1) n.toNat (by omega)
    cases hl : Lib.decDigits n.toNat with
    | nil => exact absurd hl (dec_ne _)
    | cons c r =>
      rw [hl] at u dg
      rw [parseI_plain (dg c (by simp)).1 u (by omega)]
      congr 1; omega
theorem itoa_byte {n : Int} : ∀ c ∈ Lib.itoa n, c ≠ 47 := fun c hc e => by
  subst e
  unfold Lib.itoa at hc
  have t : (47 : UInt8).toNat = 47 := rfl
  split at hc
  · rcases List.mem_cons.1 hc with h | h
    · cases h
    · have := dec_digit (n.natAbs + 1) n.natAbs (by omega) _ h; omega
  · have := dec_digit (n.toNat + 1) n.toNat (by omega) _ hc; omega
/- the text of a fraction -/
def textL (n d : Int) : List UInt8 := if d = 1 then Lib.itoa n else Lib.itoa n ++ 47 :: Lib.itoa d
theorem byte_none : ∀ (l : List UInt8) (c : UInt8), (∀ x ∈ l, x ≠ c) → Lib.indexByte l c = -1
  | [], _, _ => rfl
  | b :: l, c, h => by
    have hb : (b == c) = false := by rw [beq_eq_false_iff_ne]; exact h b (by simp)
    unfold Lib.indexByte
    rw [hb, byte_none l c (fun x hx => h x (by simp [hx]))]
    rfl
theorem byte_at : ∀ (l : List UInt8) (c : UInt8) (r : List UInt8), (∀ x ∈ l, x ≠ c) → Lib.indexByte (l ++ c :: r) c = (l.length : Int)
  | [], c, r, _ => by simp [Lib.indexByte]
  | b :: l, c, r, h => by
    have hb : (b == c) = false := by rw [beq_eq_false_iff_ne]; exact h b (by simp)
    have ih := byte_at l c r (fun x hx => h x (by simp [hx]))
    rw [List.cons_append]
    unfold Lib.indexByte
    rw [hb, ih]
    have : ((l.length : Int) == -1) = false := by rw [beq_eq_false_iff_ne]; omega
    rw [this]
    simp
theorem cut_none {l : List UInt8} (h : ∀ x ∈ l, x ≠ 47) : Lib.cut l [47] = (l, [], false) := by
  unfold Lib.cut
  rw [Lib.index_one, byte_none l 47 h, if_neg (by decide)]
theorem cut_at {l r : List UInt8} (h : ∀ x ∈ l, x ≠ 47) : Lib.cut (l ++ 47 :: r) [47] = (l, r, true) := by
  unfold Lib.cut
  rw [Lib.index_one, byte_at l 47 r h, if_pos (by omega)]
  simp [List.drop_append]
theorem cut_text (n d : Int) : Lib.cut (textL n d) [47] = (Lib.itoa n, if d = 1 then [] else Lib.itoa d, !decide (d = 1)) := by
  unfold textL
  by_cases h : d = 1
  · rw [if_pos h, if_pos h, cut_none itoa_byte]; simp [h]
  · rw [if_neg h, if_neg h, cut_at itoa_byte]; simp [h]
theorem text_len {n d : Int} (v : VF n d) : (textL n d).length ≤ 40 := by
  have L : ∀ x : Int, -1000000000000000000 ≤ x → x ≤ 1000000000000000000 → (Lib.itoa x).length ≤ 20 ∧ (0 ≤ x → (Lib.itoa x).length ≤ 19) := by
    intro x h1 h2
    have D : ∀ (k u : Nat), u < 10 ^ (k + 1) → (Lib.decDigits u).length ≤ k + 1 := by
      intro k
      induction k with
      | zero => intro u hu; rw [dec_small (by simpa using hu)]; simp
      | succ k ih =>
        intro u hu
        by_cases h : u < 10
        · rw [dec_small h]; simp
        · rw [dec_big h, List.length_append]
          have := ih (u / 10) (by rw [Nat.pow_succ] at hu; omega)
          simp; omega
    unfold Lib.itoa
    split
    · have := D 18 x.natAbs (by omega)
      simp; omega
    · have := D 18 x.toNat (by omega)
      omega
  have a := L n v.n1 v.n2
  have b := L d (by have := v.d1; omega) v.d2
  have b2 := b.2 (by have := v.d1; omega)
  unfold textL
  split
  · omega
  · simp; omega
/- the fraction with a text, if there is one -/
def PR (l : List UInt8) (r : Int × Int × Int) : Prop := (r.2.2 = 0 ∧ VF r.1 r.2.1 ∧ textL r.1 r.2.1 = l) ∨ (r = (0, 0, 12) ∧ ∀ n d, VF n d → textL n d ≠ l)
theorem text_inj {n d m k : Int} (v : VF n d) (u : VF m k) (h : textL n d = textL m k) : n = m ∧ d = k := by
  have c := congrArg (fun l => Lib.cut l [47]) h
  simp only [cut_text, Prod.mk.injEq] at c
  obtain ⟨c1, c2, c3⟩ := c
  have vn := parseI_itoa (n := n) (by have := v.n1; omega) (by have := v.n2; omega)
  have um := parseI_itoa (n := m) (by have := u.n1; omega) (by have := u.n2; omega)
  have vd := parseI_itoa (n := d) (by have := v.d1; omega) (by have := v.d2; omega)
  have uk := parseI_itoa (n := k) (by have := u.d1; omega) (by have := u.d2; omega)
  rw [c1, um] at vn
  refine ⟨by cases vn; rfl, ?_⟩
  by_cases h1 : d = 1
  · by_cases h2 : k = 1
    · omega
    · simp [h1, h2] at c3
  · by_cases h2 : k = 1
    · simp [h1, h2] at c3
    · rw [if_neg h1, if_neg h2] at c2
      rw [c2, uk] at vd
      cases vd; rfl
theorem PR.unique {l : List UInt8} {r r' : Int × Int × Int} (h : PR l r) (h' : PR l r') : r = r' := by
  obtain ⟨a, b, c⟩ := r
  obtain ⟨a', b', c'⟩ := r'
  rcases h with ⟨h1, h2, h3⟩ | ⟨h1, h2⟩
  · rcases h' with ⟨k1, k2, k3⟩ | ⟨k1, k2⟩
    · obtain ⟨e1, e2⟩ := text_inj h2 k2 (h3.trans k3.symm)
      simp only at h1 k1 e1 e2
      rw [h1, k1, e1, e2]
    · exact absurd h3 (k2 _ _ h2)
  · rcases h' with ⟨k1, k2, k3⟩ | ⟨k1, k2⟩
    · exact absurd k3 (h2 _ _ k2)
    · rw [h1, k1]
end Go.Proofs.YtpeoecgehdicmaaDoor
