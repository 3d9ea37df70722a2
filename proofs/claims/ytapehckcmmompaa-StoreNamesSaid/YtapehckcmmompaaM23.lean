/- Several texts in one. -/
import Derived.Test.YtapehckcmmompaaM22
namespace Go.Proofs.Ytapehckcmmompaa
open Go.ChangeShapes Go.WideShapes Go.ChangeAt Go.RowKit
set_option linter.unusedVariables false
set_option maxRecDepth 100000
theorem faN_zero {ds : List Dk} (h : faN ds = 0) {i : Nat} {x : Dk} (hi : ds[i]? = some x) : x.failed = false := by
 unfold faN at h
 have h1 := List.length_eq_zero_iff.1 h
 have h2 := List.filter_eq_nil_iff.1 h1 x (List.mem_of_getElem? hi)
 simpa using h2
theorem Wh.whole {D P n : Nat} {T : Nat → List (List Nat)} {ds : List Dk} (h : Wh D P n T ds) (h0 : faN ds = 0) {k : Nat} (hk : k < n) : strp ds k = enc (T k) P := by
 have hf := h.fits hk
 refine List.ext_getElem? fun i => ?_
 cases hx : ds[i]? with
 | none =>
  have hl : ds.length ≤ i := List.getElem?_eq_none_iff.1 hx
  have l1 := hf.len
  rw [strp_len] at l1
  rw [List.getElem?_eq_none (by rw [strp_len]; exact hl), List.getElem?_eq_none (by omega)]
 | some x =>
  have hi := get_lt hx
  have l1 := hf.len
  rw [strp_len] at l1
  rw [strp_get hx, faN_zero h0 hx]
  simp only [Bool.false_eq_true, if_false]
  rw [h.blk hx (faN_zero h0 hx) hk, List.getD_eq_getElem?_getD, List.getElem?_eq_getElem (by omega), Option.getD_some]
theorem Wh.fitB_ {D P n : Nat} {T : Nat → List (List Nat)} {ds es : List Dk} (h : Wh D P n T ds) (h0 : faN ds = 0) (h' : Wh D P n T es) {k : Nat} (hk : k < n) : fitB (strp es k) (strp ds k) = true := by
 rw [h.whole h0 hk]; exact (h'.fits hk).fitB_
end Go.Proofs.Ytapehckcmmompaa
