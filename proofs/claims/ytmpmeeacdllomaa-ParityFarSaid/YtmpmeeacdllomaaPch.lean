/- Plain laws of layer 45: the sum of two sound stripes is sound; how many blocks of them differ. -/
import Derived.Test.YtmpmeeacdllomaaPcf
namespace Go.Proofs.Ytmpmeeacdllomaa
open Gf
set_option linter.unusedVariables false

/- the first k numbers of b added -/
def xorK (b a : List Nat) (k : Nat) : List Nat := mixK (fun i x => x ^^^ b.getD i 0) a k
theorem xorK_len (b a : List Nat) (k : Nat) : (xorK b a k).length = a.length := mixK_len _ _ _
theorem xorK_zero (b a : List Nat) : xorK b a 0 = a := mixK_zero _ _
theorem xorK_at {b a : List Nat} {k x : Nat} (h : a[k]? = some x) : (xorK b a k)[k]? = some x := mixK_at h
theorem xorK_succ {b a : List Nat} {k x y : Nat} (h : a[k]? = some x) (hb : b[k]? = some y) : xorK b a (k + 1) = (xorK b a k).set k (x ^^^ y) := by
  unfold xorK
  rw [mixK_succ h, List.getD_eq_getElem?_getD, hb]; rfl
theorem xorK_full {b a : List Nat} {t : Nat} (ht : t < a.length) : (xorK b a a.length).getD t 0 = a.getD t 0 ^^^ b.getD t 0 := by
  simp only [xorK, mixK, List.getD_eq_getElem?_getD, List.getElem?_map, List.getElem?_range ht, Option.map_some, Option.getD_some]
  rw [if_pos ht]
theorem xorK_byt {b a : List Nat} (k : Nat) (ha : Byt a) (hb : Byt b) : Byt (xorK b a k) := fun x hx => by
  simp only [xorK, mixK, List.mem_map, List.mem_range] at hx
  obtain ⟨i, hi, rfl⟩ := hx
  split
  · exact xor_lt (ha.getD_ i) (hb.getD_ i)
  · exact ha.getD_ i
/- the first k rows added -/
def sumK (m m' : List (List Nat)) (k : Nat) : List (List Nat) := (List.range m.length).map fun i => if i < k then xorK (m'.getD i []) (m.getD i []) (m.getD i []).length else m.getD i []
theorem sumK_len (m m' : List (List Nat)) (k : Nat) : (sumK m m' k).length = m.length := by simp [sumK]
theorem sumK_get {m m' : List (List Nat)} {k i : Nat} (hi : i < m.length) : (sumK m m' k)[i]? = some (if i < k then xorK (m'.getD i []) (m.getD i []) (m.getD i []).length else m.getD i []) := by
  simp only [sumK, List.getElem?_map, List.getElem?_range hi, Option.map_some]
theorem sumK_zero (m m' : List (List Nat)) : sumK m m' 0 = m := by
  apply List.ext_getElem?
  intro i
  by_cases hi : i < m.length
  · rw [sumK_get hi, if_neg (by omega), getD_get hi]
  · rw [List.getElem?_eq_none (by rw [sumK_len]; omega), List.getElem?_eq_none (by omega)]
theorem sumK_at {m m' : List (List Nat)} {k : Nat} {l : List Nat} (h : m[k]? = some l) : (sumK m m' k)[k]? = some l := by
  rw [sumK_get (get_lt h), if_neg (by omega), getD_of h]
theorem sumK_same {m m' : List (List Nat)} {k : Nat} {l : List Nat} (h : m[k]? = some l) : (sumK m m' k).set k l = sumK m m' k := by
  apply List.ext_getElem?
  intro i
  rw [List.getElem?_set]
  by_cases e : k = i
  · subst e; rw [if_pos rfl, sumK_at h, if_pos (by rw [sumK_len]; exact get_lt h)]
  · rw [if_neg e]
theorem sumK_succ {m m' : List (List Nat)} {k : Nat} {l l' : List Nat} (h : m[k]? = some l) (h' : m'[k]? = some l') : sumK m m' (k + 1) = (sumK m m' k).set k (xorK l' l l.length) := by
  apply List.ext_getElem?
  intro i
  have hk := get_lt h
  rw [List.getElem?_set]
  by_cases hi : i < m.length
  · rw [sumK_get hi, sumK_get hi]
    by_cases e : k = i
    · subst e; rw [if_pos rfl, if_pos (by omega), if_pos (by rw [sumK_len]; exact hk), getD_of h, getD_of h']
    · rw [if_neg e]
      congr 1
      by_cases c : i < k
      · rw [if_pos (by omega), if_pos c]
      · rw [if_neg (by omega), if_neg c]
  · rw [List.getElem?_eq_none (by rw [sumK_len]; omega)]
    by_cases e : k = i
    · omega
    · rw [if_neg e, List.getElem?_eq_none (by rw [sumK_len]; omega)]
theorem sumK_getD {m m' : List (List Nat)} {i : Nat} (hi : i < m.length) : (sumK m m' m.length).getD i [] = xorK (m'.getD i []) (m.getD i []) (m.getD i []).length := by
  rw [getD_of (sumK_get hi), if_pos hi]
section
variable {d d' : List (List Nat)} {q M : Nat}
theorem sum_ok (h : OkD d q) (h' : OkD d' q) (hl : d.length = d'.length) : OkD (sumK d d' d.length) q := by
  refine ⟨by rw [sumK_len]; exact h.d1, by rw [sumK_len]; exact h.d8, h.n1, h.n64, fun l hm => ?_⟩
  obtain ⟨i, hi, rfl⟩ := List.mem_iff_getElem.1 hm
  rw [sumK_len] at hi
  have e := sumK_getD (m' := d') hi
  rw [getD_of (List.getElem?_eq_getElem (by rw [sumK_len]; exact hi))] at e
  rw [e, xorK_len, len_getD h.each hi]
theorem sum_enc (h : OkD d q) (h' : OkD d' q) (hl : d.length = d'.length) : sumK (enc d M) (enc d' M) (enc d M).length = enc (sumK d d' d.length) M := by
  have hs := sum_ok h h' hl
  have ls : (sumK d d' d.length).length = d.length := sumK_len _ _ _
  apply List.ext_getElem?
  intro i
  by_cases hi : i < d.length + M
  · have hi1 : i < (enc d M).length := by rw [enc_len]; exact hi
    rw [getD_get (by rw [sumK_len]; exact hi1), getD_get (show i < (enc (sumK d d' d.length) M).length by rw [enc_len, ls]; exact hi), sumK_getD hi1]
    congr 1
    by_cases c : i < d.length
    · rw [enc_lo c, enc_lo (by omega), enc_lo (by rw [ls]; exact c), sumK_getD c]
    · obtain ⟨j, rfl⟩ : ∃ j, i = d.length + j := ⟨i - d.length, by omega⟩
      have hj : j < M := by omega
      have e2 := enc_hi (d := d') hj
      have e3 := enc_hi (d := sumK d d' d.length) hj
      rw [← hl] at e2
      rw [ls] at e3
      rw [enc_hi hj, e2, e3]
      refine row_ext (q := q) (by rw [xorK_len, par_len h]) (par_len hs j) fun t ht => ?_
      rw [xorK_full (by rw [par_len h]; exact ht)]
      unfold par
      rw [parTo_getD (by rw [okd_len h]; exact ht), parTo_getD (by rw [okd_len h']; exact ht), parTo_getD (by rw [okd_len hs]; exact ht), ls, ← hl, ← sumN_xor]
      refine sumN_congr fun k hk => ?_
      rw [sumK_getD hk, xorK_full (by rw [len_getD h.each hk]; exact ht), gm_xor_right]
  · rw [List.getElem?_eq_none (by rw [sumK_len, enc_len]; omega), List.getElem?_eq_none (by rw [enc_len, ls]; omega)]
/- how many blocks differ -/
def difB (m m' : List (List Nat)) (i : Nat) : Bool := !decide (m.getD i [] = m'.getD i [])
theorem far_law (h : OkD d q) (hb : ∀ l ∈ d, Byt l) (h' : OkD d' q) (hb' : ∀ l ∈ d', Byt l) (hl : d.length = d'.length) (hM : M ≤ 4) :
    cntP (difB (enc d M) (enc d' M)) (enc d M).length = 0 ∨ M < cntP (difB (enc d M) (enc d' M)) (enc d M).length := by
  by_cases c : cntP (difB (enc d M) (enc d' M)) (enc d M).length ≤ M
  · have e := far_same h hb h' hb' hl hM c
    subst e
    left
    rw [cntP_congr (p' := fun _ => false) (fun i _ => by unfold difB; rw [decide_eq_true rfl]; rfl), cntP_none]
  · exact .inr (by omega)
theorem cntP_le (p : Nat → Bool) (n : Nat) : cntP p n ≤ n := by
  induction n with
  | zero => exact Nat.le_refl _
  | succ n ih => rw [cntP_succ]; split <;> omega
end
end Go.Proofs.Ytmpmeeacdllomaa
