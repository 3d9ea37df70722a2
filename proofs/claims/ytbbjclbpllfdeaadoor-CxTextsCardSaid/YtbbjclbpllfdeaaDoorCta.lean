/- Plain laws of layer 25: texts of numbers: decimal numerals are read back, and a text is cut at its marks. -/
import Derived.Test.YtbbjclbpllfdeaaDoorCya
import Derived.Lib.ItoaNum
import Derived.Lib.ItoaMem
import Derived.Lib.ItoaLen
import Derived.Lib.ParseIntB
import Derived.Lib.IndexMore
import Derived.Lib.IndexBytes
import Derived.Lib.IndexLaws
namespace Go.Proofs.YtbbjclbpllfdeaaDoor
open Go Cxm
set_option linter.unusedVariables false
theorem dec_small {u : Nat} (h : u < 10) : Lib.decDigits u = [UInt8.ofNat (48 + u)] := by rw [Lib.decDigits, dif_pos h]
theorem dec_big {u : Nat} (h : ¬ u < 10) : Lib.decDigits u = Lib.decDigits (u / 10) ++ [UInt8.ofNat (48 + u % 10)] := by rw [Lib.decDigits, dif_neg h]
theorem dig_nat {k : Nat} (h : k < 10) : (UInt8.ofNat (48 + k)).toNat = 48 + k := by
  rw [UInt8.toNat_ofNat']; omega
/- each byte of a numeral is a digit -/
theorem dec_digit : ∀ (n u : Nat), u < n → ∀ c ∈ Lib.decDigits u, 48 ≤ c.toNat ∧ c.toNat ≤ 57 := by
  intro n
  induction n with
  | zero => intro u h; omega
  | succ n ih =>
    intro u h c hc
    by_cases hu : u < 10
    · rw [dec_small hu] at hc
      simp only [List.mem_singleton] at hc
      subst hc
      rw [dig_nat hu]; omega
    · rw [dec_big hu] at hc
      rcases List.mem_append.1 hc with h1 | h1
      · exact ih (u / 10) (by omega) c h1
      · simp only [List.mem_singleton] at h1
        subst h1
        rw [dig_nat (by omega)]; omega
theorem dec_ne (u : Nat) : Lib.decDigits u ≠ [] := by
  by_cases hu : u < 10
  · rw [dec_small hu]; simp
  · rw [dec_big hu]; simp
/- what digits spell -/
def spell (acc : Nat) (l : List UInt8) : Nat := l.foldl (fun a c => a * 10 + (c.toNat - 48)) acc
theorem spell_cons (acc : Nat) (c : UInt8) (l : List UInt8) : spell acc (c :: l) = spell (acc * 10 + (c.toNat - 48)) l := by unfold spell; rw [List.foldl_cons]
theorem spell_snoc (acc : Nat) (l : List UInt8) (c : UInt8) : spell acc (l ++ [c]) = spell acc l * 10 + (c.toNat - 48) := by unfold spell; rw [List.foldl_append, List.foldl_cons, List.foldl_nil]
theorem spell_ge : ∀ (l : List UInt8) (acc : Nat), acc ≤ spell acc l
  | [], acc => Nat.le_refl _
  | c :: l, acc => by
    rw [spell_cons]
    exact Nat.le_trans (by omega) (spell_ge l (acc * 10 + (c.toNat - 48)))
theorem spell_dec : ∀ (n u : Nat), u < n → spell 0 (Lib.decDigits u) = u := by
  intro n
  induction n with
  | zero => intro u h; omega
  | succ n ih =>
    intro u h
    by_cases hu : u < 10
    · rw [dec_small hu, show [UInt8.ofNat (48 + u)] = [] ++ [UInt8.ofNat (48 + u)] from rfl, spell_snoc, dig_nat hu]
      simp [spell]
    · rw [dec_big hu, spell_snoc, ih (u / 10) (by omega), dig_nat (by omega)]
      omega
theorem parseU_spell {M : Nat} (hM : M = 18446744073709551615) : ∀ (l : List UInt8) (acc : Nat), (∀ c ∈ l, 48 ≤ c.toNat ∧ c.toNat ≤ 57) → spell acc l ≤ M → Lib.parseUintM M acc l = .ok (spell acc l)
  | [], acc, _, _ => rfl
  | c :: l, acc, hd, hs => by
    have h1 := hd c (by simp)
    rw [spell_cons] at hs ⊢
    have h2 := spell_ge l (acc * 10 + (c.toNat - 48))
    unfold Lib.parseUintM
    rw [if_pos h1, if_neg (by omega), if_neg (by omega)]
    exact parseU_spell hM l _ (fun x hx => hd x (by simp [hx])) hs
theorem parseI_minus {r : List UInt8} {u : Nat} (h : Lib.parseUintB 64 r = .ok u) (hu : u ≤ 9223372036854775808) : Lib.parseIntB 64 (45 :: r) = .ok (-(u : Int)) := by
  unfold Lib.parseIntB
  have e : (if (45 : UInt8).toNat = 43 ∨ (45 : UInt8).toNat = 45 then r else 45 :: r) = r := if_pos (.inr rfl)
  simp only [e, h]
  have n : (45 : UInt8).toNat = 45 := rfl
  rw [if_neg (fun k => k.1 n), if_neg (fun k => by have := k.2; rw [show (2 : Nat) ^ (64 - 1) = 9223372036854775808 from rfl] at this; omega), if_pos n]
theorem parseI_plain {c : UInt8} {r : List UInt8} {u : Nat} (hc : 48 ≤ c.toNat) (h : Lib.parseUintB 64 (c :: r) = .ok u) (hu : u < 9223372036854775808) : Lib.parseIntB 64 (c :: r) = .ok (u : Int) := by
  unfold Lib.parseIntB
  have e : (if c.toNat = 43 ∨ c.toNat = 45 then r else c :: r) = c :: r := if_neg (by omega)
  simp only [e, h]
  rw [if_neg (fun k => by have := k.2; rw [show (2 : Nat) ^ (64 - 1) = 9223372036854775808 from rfl] at this; omega), if_neg (fun k => by have := k.1; omega), if_neg (by omega)]
theorem parseI_itoa {n : Int} (h1 : -9223372036854775808 ≤ n) (h2 : n ≤ 9223372036854775807) : Lib.parseIntB 64 (Lib.itoa n) = .ok n := by
  have U : ∀ u : Nat, u ≤ 9223372036854775808 → Lib.parseUintB 64 (Lib.decDigits u) = .ok u := fun u hu => by
    unfold Lib.parseUintB
    have hs := spell_dec (u + 1) u (by omega)
    rw [if_neg (dec_ne u), parseU_spell (by decide) _ _ (dec_digit (u + 1) u (by omega)) (by rw [hs]; omega), hs]
  by_cases hn : n < 0
  · have e : Lib.itoa n = 45 :: Lib.decDigits n.natAbs := by unfold Lib.itoa; rw [if_pos hn]
    rw [e, parseI_minus (U n.natAbs (by omega)) (by omega)]
    congr 1; omega
  · have e : Lib.itoa n = Lib.decDigits n.toNat := by unfold Lib.itoa; rw [if_neg hn]
    rw [e]
    have u := U n.toNat (by omega)
    have dg := dec_digit (n.toNat + 1) n.toNat (by omega)
    cases hl : Lib.decDigits n.toNat with
    | nil => exact absurd hl (dec_ne _)
    | cons c r =>
      rw [hl] at u dg
      rw [parseI_plain (dg c (by simp)).1 u (by omega)]
      congr 1; omega
theorem itoa_neg' {n : Int} (h : n < 0) : Lib.itoa n = 45 :: Lib.decDigits n.natAbs := by unfold Lib.itoa; rw [if_pos h]
theorem itoa_pos' {n : Int} (h : ¬ n < 0) : Lib.itoa n = Lib.decDigits n.toNat := by unfold Lib.itoa; rw [if_neg h]
theorem dec_len : ∀ (k u : Nat), u < 10 ^ (k + 1) → (Lib.decDigits u).length ≤ k + 1 := by
  intro k
  induction k with
  | zero => intro u hu; rw [dec_small (by simpa using hu)]; simp
  | succ k ih =>
    intro u hu
    by_cases h : u < 10
    · rw [dec_small h]; simp
    · rw [dec_big h, List.length_append]
      have := ih (u / 10) (by rw [Nat.pow_succ] at hu; omega)
      simp; omega
theorem byte_none : ∀ (l : List UInt8) (c : UInt8), (∀ x ∈ l, x ≠ c) → Lib.indexByte l c = -1
  | [], _, _ => rfl
  | b :: l, c, h => by
    have hb : (b == c) = false := by rw [beq_eq_false_iff_ne]; exact h b (by simp)
    unfold Lib.indexByte
    rw [hb, byte_none l c (fun x hx => h x (by simp [hx]))]
    rfl
theorem byte_at : ∀ (l : List UInt8) (c : UInt8) (r : List UInt8), (∀ x ∈ l, x ≠ c) → Lib.indexByte (l ++ c :: r) c = (l.length : Int)
  | [], c, r, _ => by simp [Lib.indexByte]
  | b :: l, c, r, h => by
    have hb : (b == c) = false := by rw [beq_eq_false_iff_ne]; exact h b (by simp)
    have ih := byte_at l c r (fun x hx => h x (by simp [hx]))
    rw [List.cons_append]
    unfold Lib.indexByte
    rw [hb, ih]
    have : ((l.length : Int) == -1) = false := by rw [beq_eq_false_iff_ne]; omega
    rw [this]
    simp
theorem itoa_byte {n : Int} {m : UInt8} (hm : m = 44 ∨ m = 47) : ∀ c ∈ Lib.itoa n, c ≠ m := fun c hc e => by
  subst e
  have t : c.toNat = 44 ∨ c.toNat = 47 := by rcases hm with rfl | rfl <;> simp
  by_cases h : n < 0
  · rw [itoa_neg' h] at hc
    rcases List.mem_cons.1 hc with h | h
    · subst h; simp at t
    · have := dec_digit (n.natAbs + 1) n.natAbs (by omega) _ h; omega
  · rw [itoa_pos' h] at hc
    have := dec_digit (n.toNat + 1) n.toNat (by omega) _ hc; omega
theorem cut_none {l : List UInt8} {m : UInt8} (h : ∀ x ∈ l, x ≠ m) : Lib.cut l [m] = (l, [], false) := by
  unfold Lib.cut
  rw [Lib.index_one, byte_none l m h, if_neg (by decide)]
theorem cut_at {l r : List UInt8} {m : UInt8} (h : ∀ x ∈ l, x ≠ m) : Lib.cut (l ++ m :: r) [m] = (l, r, true) := by
  unfold Lib.cut
  rw [Lib.index_one, byte_at l m r h, if_pos (by omega)]
  simp [List.drop_append]
/- the text of a number -/
def partsX (r i : Int) : List UInt8 := Lib.itoa r ++ 44 :: Lib.itoa i
def textX (r i d : Int) : List UInt8 := if d = 1 then partsX r i else partsX r i ++ 47 :: Lib.itoa d
theorem parts_byte {r i : Int} : ∀ c ∈ partsX r i, c ≠ 47 := fun c hc => by
  unfold partsX at hc
  rcases List.mem_append.1 hc with h | h
  · exact itoa_byte (.inr rfl) c h
  · rcases List.mem_cons.1 h with h | h
    · subst h; decide
    · exact itoa_byte (.inr rfl) c h
theorem cut_text (r i d : Int) : Lib.cut (textX r i d) [47] = (partsX r i, if d = 1 then [] else Lib.itoa d, !decide (d = 1)) := by
  unfold textX
  by_cases h : d = 1
  · rw [if_pos h, if_pos h, cut_none parts_byte]; simp [h]
  · rw [if_neg h, if_neg h, cut_at parts_byte]; simp [h]
theorem cut_parts (r i : Int) : Lib.cut (partsX r i) [44] = (Lib.itoa r, Lib.itoa i, true) := by
  unfold partsX
  exact cut_at (itoa_byte (.inl rfl))
theorem itoa_len9 {x : Int} (h1 : -1000000000 ≤ x) (h2 : x ≤ 1000000000) : (Lib.itoa x).length ≤ 11 ∧ (0 ≤ x → (Lib.itoa x).length ≤ 10) := by
  by_cases h : x < 0
  · rw [itoa_neg' h]
    have := dec_len 9 x.natAbs (by omega)
    simp; omega
  · rw [itoa_pos' h]
    have := dec_len 9 x.toNat (by omega)
    omega
theorem text_len {r i d : Int} (h : chkB r i d = true) : (textX r i d).length ≤ 34 := by
  obtain ⟨h1, h2, h3, _⟩ := chk_iff.1 h
  have a := itoa_len9 h2.1 h2.2
  have b := itoa_len9 h3.1 h3.2
  have c := (itoa_len9 (x := d) (by omega) (by omega)).2 (by omega)
  unfold textX partsX
  split <;> simp <;> omega
/- what the parts of a text are -/
theorem text_parts {l : List UInt8} {lp ld la lb : List UInt8} {f g : Bool} (hc : Lib.cut l [47] = (lp, ld, f)) (hp : Lib.cut lp [44] = (la, lb, g)) {r i d : Int} (h : textX r i d = l) :
    g = true ∧ Lib.itoa r = la ∧ Lib.itoa i = lb ∧ Lib.itoa d = (if f then ld else [49]) := by
  rw [← h, cut_text] at hc
  simp only [Prod.mk.injEq] at hc
  obtain ⟨h1, h2, h3⟩ := hc
  rw [← h1, cut_parts] at hp
  simp only [Prod.mk.injEq] at hp
  refine ⟨hp.2.2.symm, hp.1, hp.2.1, ?_⟩
  rw [← h3, ← h2]
  by_cases k : d = 1
  · subst k; simp; decide +kernel
  · simp [k]
/- the number with a text, if there is one -/
def PX (l : List UInt8) (r : Int × Int × Int × Int) : Prop := (r.2.2.2 = 0 ∧ chkB r.1 r.2.1 r.2.2.1 = true ∧ textX r.1 r.2.1 r.2.2.1 = l) ∨ (r = (0, 0, 0, 12) ∧ ∀ n i d, chkB n i d = true → textX n i d ≠ l)
theorem val_itoa {n i d : Int} (h : chkB n i d = true) : Lib.parseIntB 64 (Lib.itoa n) = .ok n ∧ Lib.parseIntB 64 (Lib.itoa i) = .ok i ∧ Lib.parseIntB 64 (Lib.itoa d) = .ok d := by
  obtain ⟨h1, h2, h3, _⟩ := chk_iff.1 h
  exact ⟨parseI_itoa (by omega) (by omega), parseI_itoa (by omega) (by omega), parseI_itoa (by omega) (by omega)⟩
theorem text_inj {n i d m j k : Int} (v : chkB n i d = true) (u : chkB m j k = true) (h : textX n i d = textX m j k) : n = m ∧ i = j ∧ d = k := by
  obtain ⟨_, a, b, c⟩ := text_parts (cut_text m j k) (cut_parts m j) h
  obtain ⟨_, a', b', c'⟩ := text_parts (cut_text m j k) (cut_parts m j) (r := m) (i := j) (d := k) rfl
  obtain ⟨p, q, r⟩ := val_itoa v
  obtain ⟨p', q', r'⟩ := val_itoa u
  rw [a, p'] at p
  rw [b, q'] at q
  rw [c, ← c', r'] at r
  cases p; cases q; cases r
  exact ⟨rfl, rfl, rfl⟩
theorem PX.unique {l : List UInt8} {r r' : Int × Int × Int × Int} (h : PX l r) (h' : PX l r') : r = r' := by
  obtain ⟨a, b, c, e⟩ := r
  obtain ⟨a', b', c', e'⟩ := r'
  rcases h with ⟨h1, h2, h3⟩ | ⟨h1, h2⟩
  · rcases h' with ⟨k1, k2, k3⟩ | ⟨k1, k2⟩
    · obtain ⟨e1, e2, e3⟩ := text_inj h2 k2 (h3.trans k3.symm)
      simp only at h1 k1 e1 e2 e3
      rw [h1, k1, e1, e2, e3]
    · exact absurd h3 (k2 _ _ _ h2)
  · rcases h' with ⟨k1, k2, k3⟩ | ⟨k1, k2⟩
    · exact absurd k3 (h2 _ _ _ k2)
    · rw [h1, k1]
theorem PX.none {l : List UInt8} (h : ∀ n i d, chkB n i d = true → textX n i d ≠ l) : PX l (0, 0, 0, 12) := .inr ⟨rfl, h⟩
end Go.Proofs.YtbbjclbpllfdeaaDoor
