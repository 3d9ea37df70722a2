/- Contracts of layer 25: numbers and cuts of the reference. -/
import Derived.Test.YtbbjclbpllfdeaaDoorCth
namespace Go.Proofs.YtbbjclbpllfdeaaDoor
open Go.ChangeShapes Go.WideShapes Go.ChangeAt Go.RowKit Cxm
set_option linter.unusedVariables false
attribute [local go_sem ↓] Go.wp_at_zero Go.wp_at_succ

theorem str_of {s : ByteArray} {l : List UInt8} (h : s.data.toList = l) : Value.string s = Str l := by
  subst h
  rfl
theorem ext_take (s : ByteArray) (k : Nat) : (s.extract 0 k).data.toList = s.data.toList.take k := by simp [ByteArray.data_extract, Array.toList_extract]
theorem ext_drop (s : ByteArray) (k : Nat) : (s.extract k s.size).data.toList = s.data.toList.drop k := by
  rw [ByteArray.data_extract, Array.toList_extract, List.extract_eq_take_drop, List.take_of_length_le]
  rw [List.length_drop, s_len]
  omega
theorem str_get (s : ByteArray) (k : Nat) (h : k < s.size) : s.data.toList[k]? = some s[k] := by
  have : k < s.data.toList.length := by rw [Array.length_toList]; exact h
  rw [List.getElem?_eq_getElem this]
  rfl
theorem cut_split (l : List UInt8) (m : UInt8) (k : Nat) (h : ∀ (j : Nat) (c : UInt8), j < k → l[j]? = some c → c ≠ m) (hk : k < l.length → l[k]? = some m) (hl : k ≤ l.length) :
    (Lib.cut l [m]).1 = l.take k ∧ (Lib.cut l [m]).2.1 = l.drop (k + 1) := by
  have no : ∀ x ∈ l.take k, x ≠ m := fun x hx e => by
    obtain ⟨j, hj, rfl⟩ := List.mem_iff_getElem.1 hx
    have hj' : j < k := by rw [List.length_take] at hj; omega
    rw [List.getElem_take] at e
    exact h j l[j] hj' (List.getElem?_eq_getElem (by omega)) e
  by_cases c : k < l.length
  · have hb := hk c
    have e : l = l.take k ++ m :: l.drop (k + 1) := by
      obtain ⟨h1, h2⟩ := List.getElem?_eq_some_iff.1 hb
      have := List.drop_eq_getElem_cons h1
      rw [h2] at this
      rw [← this, List.take_append_drop]
    have := cut_at (l := l.take k) (r := l.drop (k + 1)) no
    rw [← e] at this
    rw [this]
    exact ⟨rfl, rfl⟩
  · have e : k = l.length := by omega
    subst e
    rw [List.take_length] at no ⊢
    rw [cut_none no, List.drop_eq_nil_of_le (by omega)]
    exact ⟨rfl, rfl⟩
def CUP (l : List UInt8) (m : UInt8) (w : World) (e : Ending) (w' : World) : Prop := e = .returned (.tuple #[Str (Lib.cut l [m]).1, Str (Lib.cut l [m]).2.1]) ∧ Below w.heap.size w w'
theorem ret_ss {a b : ByteArray} {l r : List UInt8} (h1 : a.data.toList = l) (h2 : b.data.toList = r) : Ending.returned (.tuple #[.string a, .string b]) = .returned (.tuple #[Str l, Str r]) := by rw [str_of h1, str_of h2]
set_option maxRecDepth 100000 in
set_option maxHeartbeats 8000000 in
theorem refCut_calls (s : ByteArray) (m : UInt8) (w : World) (hs : s.size ≤ 200) :
    Calls Tryd.prog 34 #[.string s, .int .u8 (m.toNat : Int)] w (CUP s.data.toList m w) := by
  have SL := s_len s
  have SG := Lib.hid (fun k (h : k < s.size) => str_get s k h)
  have T1 := Lib.hid (fun k => ext_take s k)
  have T2 := Lib.hid (fun k => ext_drop s k)
  obtain ⟨l, hl⟩ : ∃ l, s.data.toList = l := ⟨_, rfl⟩
  rw [hl] at SL SG T1 T2 ⊢
  have HL := Lib.hid hl
  have LE := Lib.hid SL
  clear SL hl
  have s2 : s.size ≤ 9223372036854775807 := by omega
  go_enter Tryd.func34, Tryd.ntmps34
  go_wp2_with fail
  go_loop [6] (fun i => ∃ k : Nat, k ≤ s.size ∧ i = .int .i64 k ∧ Hid (∀ (j : Nat) (c : UInt8), j < k → l[j]? = some c → c ≠ m)) (fun i => s.size - (intOf i).toNat)
  case atStart => exact ⟨0, by omega, rfl, Lib.hid (fun j c h => by omega)⟩
  case round =>
    obtain ⟨k, hk, rfl, NO⟩ := hrel
    have z1 : decide ((0 : Int) ≤ (k : Int)) = true := decide_eq_true (by omega)
    have z2 : (0 : Int) ≤ (k : Int) := by omega
    by_cases hlt : k < s.size
    · have z3 : (k : Int) < (s.size : Int) := by omega
      by_cases hc : s[k] = m
      · have e1 : ((s[k].toNat : Int) == (m.toNat : Int)) = true := by rw [hc]; exact beq_self_eq_true _
        have CS := Lib.hid (cut_split l m k NO.out (fun h => by rw [SG.out k hlt, hc]) (by rw [LE.out]; exact hk))
        have z4 : (0 : Int) ≤ (k : Int) + 1 := by omega
        have z5 : (k : Int) + 1 ≤ (s.size : Int) := by omega
        have z6 : k + 1 ≤ s.size := hlt
        have W1 : IntKind.i64.wrap ((k : Int) + 1) = (k : Int) + 1 := IntWalk.i64_in _ (by omega)
        have N1 : ((k : Int) + 1).toNat = k + 1 := by omega
        clear hc NO
        go_wp2_with fail
        go_quiet (fail)
        go_wp2_with fail
        go_ret2
        exact ⟨ret_ss (by rw [T1.out, CS.out.1]) (by rw [T2.out, CS.out.2]), below_drewN (Below.refl _ _) _⟩
      · have e1 : ((s[k].toNat : Int) == (m.toNat : Int)) = false := by
          rw [beq_eq_false_iff_ne]
          intro h
          exact hc (UInt8.toNat_inj.1 (by omega))
        have N2 : Hid (∀ (j : Nat) (c : UInt8), j < k + 1 → l[j]? = some c → c ≠ m) := Lib.hid (fun j c h hj => by
          by_cases e : j = k
          · subst e
            rw [SG.out j hlt] at hj
            cases hj; exact hc
          · exact NO.out j c (by omega) hj)
        have kk : k + 1 ≤ s.size := hlt
        clear hc NO
        go_wp2_with fail
        go_round
        case rel => exact ⟨k + 1, kk, by go_num, N2⟩
        case measure => simp [intOf]; omega
    · have CS := Lib.hid (cut_split l m k NO.out (fun h => absurd h (by rw [LE.out]; exact hlt)) (by rw [LE.out]; exact hk))
      have TK : Hid (l.take k = l ∧ l.drop (k + 1) = []) := Lib.hid ⟨List.take_of_length_le (by rw [LE.out]; omega), List.drop_eq_nil_of_le (by rw [LE.out]; omega)⟩
      clear NO
      go_wp2_with fail
      go_ret2
      exact ⟨ret_ss (by rw [CS.out.1, TK.out.1]; exact HL.out) (by rw [CS.out.2, TK.out.2]), Below.refl _ _⟩
/- numbers -/
def numL : List UInt8 → Nat → Option Nat
  | [], n => some n
  | c :: r, n => if c.toNat < 48 ∨ 57 < c.toNat then none else numL r (10 * n + (c.toNat - 48))
theorem num_spell : ∀ (l : List UInt8) (acc : Nat), (∀ c ∈ l, 48 ≤ c.toNat ∧ c.toNat ≤ 57) → numL l acc = some (spell acc l)
  | [], acc, _ => rfl
  | c :: l, acc, hd => by
    have h1 := hd c (by simp)
    rw [spell_cons]
    unfold numL
    rw [if_neg (by omega), Nat.mul_comm 10 acc]
    exact num_spell l _ (fun x hx => hd x (by simp [hx]))
theorem num_dec (u : Nat) : numL (Lib.decDigits u) 0 = some u := by
  rw [num_spell _ _ (dec_digit (u + 1) u (by omega)), spell_dec (u + 1) u (by omega)]
def negL (l : List UInt8) : Bool := decide (1 < l.length) && (match l with | c :: _ => c.toNat == 45 | [] => false)
def bodyL (l : List UInt8) : List UInt8 := if negL l then l.tail else l
theorem negL_itoa (n : Int) : negL (Lib.itoa n) = decide (n < 0) := by
  by_cases h : n < 0
  · rw [itoa_neg' h, decide_eq_true h]
    have := List.length_pos_iff.2 (dec_ne n.natAbs)
    unfold negL
    rw [decide_eq_true (by simp; omega)]
    rfl
  · rw [itoa_pos' h, decide_eq_false h]
    have dg := dec_digit (n.toNat + 1) n.toNat (by omega)
    cases hl : Lib.decDigits n.toNat with
    | nil => rfl
    | cons c r =>
      rw [hl] at dg
      have := dg c (by simp)
      unfold negL
      have e : (c.toNat == 45) = false := by rw [beq_eq_false_iff_ne]; omega
      simp only [e, Bool.and_false]
theorem bodyL_itoa (n : Int) : bodyL (Lib.itoa n) = Lib.decDigits n.natAbs := by
  unfold bodyL
  rw [negL_itoa]
  by_cases h : n < 0
  · rw [decide_eq_true h, itoa_neg' h]; rfl
  · rw [decide_eq_false h, itoa_pos' h]
    simp only [Bool.false_eq_true, if_false]
    congr 1
    omega
/- what a numeral gives -/
def NX (l : List UInt8) (v : Int) (b : Bool) : Prop := ∀ n : Int, -1000000000 ≤ n → n ≤ 1000000000 → Lib.itoa n = l → v = n ∧ b = true
theorem NX.odd {l : List UInt8} (h : (bodyL l).length < 1 ∨ 10 < (bodyL l).length ∨ numL (bodyL l) 0 = none) (v : Int) : NX l v false := fun n h1 h2 e => by
  exfalso
  rw [← e, bodyL_itoa, num_dec] at h
  have := dec_len 9 n.natAbs (by omega)
  have := List.length_pos_iff.2 (dec_ne n.natAbs)
  rcases h with h | h | h
  · omega
  · omega
  · cases h
theorem NX.val {l : List UInt8} {m : Nat} (h : numL (bodyL l) 0 = some m) : NX l (if negL l then -(m : Int) else m) true := fun n h1 h2 e => by
  rw [← e, bodyL_itoa, num_dec] at h
  cases h
  rw [← e, negL_itoa]
  refine ⟨?_, rfl⟩
  by_cases hn : n < 0
  · rw [decide_eq_true hn]; simp; omega
  · rw [decide_eq_false hn]; simp; omega
def NUX (l : List UInt8) (w : World) (e : Ending) (w' : World) : Prop := ∃ v b, e = .returned (.tuple #[.int .i64 v, .bool b]) ∧ NX l v b ∧ w' = w
theorem neg_head {l : List UInt8} {c : UInt8} (h : l[0]? = some c) : negL l = (decide (1 < l.length) && (c.toNat == 45)) := by
  cases l with
  | nil => simp at h
  | cons x r => simp at h; subst h; rfl
theorem pow_step {m k : Nat} (h : m < 10 ^ k) (d : Nat) (hd : d ≤ 9) : 10 * m + d < 10 ^ (k + 1) := by rw [Nat.pow_succ]; omega
theorem pow_bd {m k : Nat} (h : m < 10 ^ k) (hk : k ≤ 10) : m < 10000000000 := by
  have := Nat.pow_le_pow_right (show 0 < 10 by decide) hk
  omega
end Go.Proofs.YtbbjclbpllfdeaaDoor
