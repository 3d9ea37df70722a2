/- Several texts in one. -/
import Derived.Deep.Slices
import Derived.Deep.Fields
import Derived.ChangeSame
import Derived.ChangeArms
import Derived.Lib.SmallJoins
import Derived.Test.YtbbnkclajpaghaaGreatDoorRows
import Derived.Deep.DeepHandedRow
import Derived.ProofKit
import Derived.SizedLaws
import Derived.Stop.LaidErr
import Derived.Lib.LaidTab
import Derived.Test.YtbbnkclajpaghaaGreatDoorME01
import Derived.Test.YtbbnkclajpaghaaGreatDoorME16
set_option maxRecDepth 100000
set_option linter.unusedVariables false
set_option linter.unusedSimpArgs false
namespace Go.Proofs.YtbbnkclajpaghaaGreatDoor
section
open Go.ChangeShapes Go.WideShapes Go.ChangeAt Go.RowKit Go.Deep Go.Joins
instance : Inhabited Vr := ⟨⟨0, 0, 0, 0, 0, 0, 0, 0⟩⟩
theorem plain_addr {w : World} {a : Addr} {v : Value} (h : w.cell? a = some v) : a = ⟨a.block, a.off, none⟩ := by
 rcases a with ⟨b, o, s⟩
 cases s with
 | none => rfl
 | some s =>
  unfold World.cell? at h
  split at h
  ·simp at h
  ·cases h
theorem add_plain (b o j : Nat) : (⟨b, o, none⟩ : Addr).add j = ⟨b, o + j, none⟩ := by
 simp [Addr.add]
theorem list3 {α : Type} {cs : List α} (h : cs.length = 3) : ∃ c0 c1 c2, cs = [c0, c1, c2] := by
 match cs, h with
 | [c0, c1, c2], _ => exact ⟨c0, c1, c2, rfl⟩
theorem list4 {α : Type} {cs : List α} (h : cs.length = 4) : ∃ c0 c1 c2 c3, cs = [c0, c1, c2, c3] := by
 match cs, h with
 | [c0, c1, c2, c3], _ => exact ⟨c0, c1, c2, c3, rfl⟩
theorem list6 {α : Type} {cs : List α} (h : cs.length = 6) : ∃ c0 c1 c2 c3 c4 c5, cs = [c0, c1, c2, c3, c4, c5] := by
 match cs, h with
 | [c0, c1, c2, c3, c4, c5], _ => exact ⟨c0, c1, c2, c3, c4, c5, rfl⟩
theorem list8 {α : Type} {cs : List α} (h : cs.length = 8) : ∃ c0 c1 c2 c3 c4 c5 c6 c7, cs = [c0, c1, c2, c3, c4, c5, c6, c7] := by
 match cs, h with
 | [c0, c1, c2, c3, c4, c5, c6, c7], _ => exact ⟨c0, c1, c2, c3, c4, c5, c6, c7, rfl⟩
theorem cof_i : Tryz.prog.cellsOf 3 = 1 := by kernel_rfl
theorem cof_l : Tryz.prog.cellsOf 2 = 1 := by kernel_rfl
theorem cof_c : Tryz.prog.cellsOf 40 = 3 := by kernel_rfl
theorem cof_v : Tryz.prog.cellsOf 42 = 6 := by kernel_rfl
theorem cof_r : Tryz.prog.cellsOf 44 = 8 := by kernel_rfl
section
variable {H : Type} {enc : TypeId × Value → H} {w : World} {base : Nat} {spare : Nat → Bool} {held : Bool}
theorem int_oneT {n : Nat} {c : Value} {x : Option (DataW H × List MemPlace)} {y : DataW H × List MemPlace} (hx : x = some y) (h : DataW.trod enc Tryz.prog w base spare held n 3 [c] = x) : ∃ a : Int, c = .int .i64 a := by
 subst hx
 obtain ⟨a, e, _⟩ := DataW.trod_int Tryz.underlying3 h
 simp only [List.cons.injEq, and_true] at e
 exact ⟨a, e⟩
theorem long_one {n : Nat} {c : Value} {x : Option (DataW H × List MemPlace)} {y : DataW H × List MemPlace} (hx : x = some y) (h : DataW.trod enc Tryz.prog w base spare held n 2 [c] = x) : ∃ a : Int, c = .int .i64 a := by
 subst hx
 obtain ⟨a, e, _⟩ := DataW.trod_int Tryz.underlying2 h
 simp only [List.cons.injEq, and_true] at e
 exact ⟨a, e⟩
theorem cx_cells {fuel : Nat} {cs : List Value} {x : DataW H × List MemPlace} (h : DataW.trod enc Tryz.prog w base spare held fuel 40 cs = some x) : ∃ a b c : Int, cs = [.int .i64 a, .int .i64 b, .int .i64 c] := by
 obtain ⟨xs, n, _, _, hl, hx, hf⟩ := DataW.trod_struct Tryz.underlying40 h
 rw [cof_c] at hl
 obtain ⟨u0, u1, u2, rfl⟩ := list3 hl
 obtain ⟨x0, x1, x2, rfl⟩ := list3 hx
 have h0 := hf 0 _ rfl
 have h1 := hf 1 _ rfl
 have h2 := hf 2 _ rfl
 change DataW.trod enc Tryz.prog w base spare held n 2 (([u0, u1, u2].drop 0).take (Tryz.prog.cellsOf 2)) = _ at h0
 rw [cof_l] at h0
 change DataW.trod enc Tryz.prog w base spare held n 2 (([u0, u1, u2].drop 1).take (Tryz.prog.cellsOf 2)) = _ at h1
 rw [cof_l] at h1
 change DataW.trod enc Tryz.prog w base spare held n 2 (([u0, u1, u2].drop 2).take (Tryz.prog.cellsOf 2)) = _ at h2
 rw [cof_l] at h2
 obtain ⟨a, rfl⟩ := long_one rfl h0
 obtain ⟨b, rfl⟩ := long_one rfl h1
 obtain ⟨c, rfl⟩ := long_one rfl h2
 exact ⟨a, b, c, rfl⟩
theorem vis_cells {fuel : Nat} {cs : List Value} {x : DataW H × List MemPlace} (h : DataW.trod enc Tryz.prog w base spare held fuel 42 cs = some x) : ∃ i j a b c n : Int, cs = [.int .i64 i, .int .i64 j, .int .i64 a, .int .i64 b, .int .i64 c, .int .i64 n] := by
 obtain ⟨xs, n, _, _, hl, hx, hf⟩ := DataW.trod_struct Tryz.underlying42 h
 rw [cof_v] at hl
 obtain ⟨u0, u1, u2, u3, u4, u5, rfl⟩ := list6 hl
 obtain ⟨x0, x1, x2, x3, rfl⟩ := list4 hx
 have h0 := hf 0 _ rfl
 have h1 := hf 1 _ rfl
 have h2 := hf 2 _ rfl
 have h3 := hf 3 _ rfl
 change DataW.trod enc Tryz.prog w base spare held n 3 (([u0, u1, u2, u3, u4, u5].drop 0).take (Tryz.prog.cellsOf 3)) = _ at h0
 rw [cof_i] at h0
 change DataW.trod enc Tryz.prog w base spare held n 3 (([u0, u1, u2, u3, u4, u5].drop 1).take (Tryz.prog.cellsOf 3)) = _ at h1
 rw [cof_i] at h1
 change DataW.trod enc Tryz.prog w base spare held n 40 (([u0, u1, u2, u3, u4, u5].drop 2).take (Tryz.prog.cellsOf 40)) = _ at h2
 rw [cof_c] at h2
 change DataW.trod enc Tryz.prog w base spare held n 3 (([u0, u1, u2, u3, u4, u5].drop 5).take (Tryz.prog.cellsOf 3)) = _ at h3
 rw [cof_i] at h3
 obtain ⟨i, rfl⟩ := int_oneT rfl h0
 obtain ⟨j, rfl⟩ := int_oneT rfl h1
 obtain ⟨a, b, c, e⟩ := cx_cells (x := x2) h2
 obtain ⟨m, rfl⟩ := int_oneT rfl h3
 simp at e
 obtain ⟨rfl, rfl, rfl⟩ := e
 exact ⟨i, j, a, b, c, m, rfl⟩
theorem row_cells {fuel : Nat} {cs : List Value} {x : DataW H × List MemPlace} (h : DataW.trod enc Tryz.prog w base spare held fuel 44 cs = some x) : ∃ r : Vr, cs = vr8 r := by
 obtain ⟨xs, n, _, _, hl, hx, hf⟩ := DataW.trod_struct Tryz.underlying44 h
 rw [cof_r] at hl
 obtain ⟨u0, u1, u2, u3, u4, u5, u6, u7, rfl⟩ := list8 hl
 obtain ⟨x0, x1, x2, rfl⟩ := list3 hx
 have h0 := hf 0 _ rfl
 have h1 := hf 1 _ rfl
 have h2 := hf 2 _ rfl
 change DataW.trod enc Tryz.prog w base spare held n 3 (([u0, u1, u2, u3, u4, u5, u6, u7].drop 0).take (Tryz.prog.cellsOf 3)) = _ at h0
 rw [cof_i] at h0
 change DataW.trod enc Tryz.prog w base spare held n 3 (([u0, u1, u2, u3, u4, u5, u6, u7].drop 1).take (Tryz.prog.cellsOf 3)) = _ at h1
 rw [cof_i] at h1
 change DataW.trod enc Tryz.prog w base spare held n 42 (([u0, u1, u2, u3, u4, u5, u6, u7].drop 2).take (Tryz.prog.cellsOf 42)) = _ at h2
 rw [cof_v] at h2
 obtain ⟨t, rfl⟩ := int_oneT rfl h0
 obtain ⟨c, rfl⟩ := int_oneT rfl h1
 obtain ⟨i, j, a, b, d, m, e⟩ := vis_cells (x := x2) h2
 simp at e
 obtain ⟨rfl, rfl, rfl, rfl, rfl, rfl⟩ := e
 exact ⟨⟨t, c, i, j, a, b, d, m⟩, rfl⟩
theorem open_row {r : Reach} {b0 : Nat} {v : Value} {d : DataW H} {p : List MemPlace} (hv : Value.okWide Tryz.prog w r b0 44 v) (h : DataW.Trod enc Tryz.prog w base spare held 44 v d p) : ∃ r : Vr, v = Rwv r := by
 obtain ⟨cs, rfl, hsz⟩ := okWide_struct Tryz.underlying44 hv
 obtain ⟨fuel, hf⟩ := h
 obtain ⟨r, hr⟩ := row_cells hf
 refine ⟨r, ?_⟩
 obtain ⟨l⟩ := cs
 simp only [Value.cells] at hr
 subst hr
 rfl
theorem open_vrows {fuel : Nat} {cs : List Value} {x : DataW H × List MemPlace} (h : DataW.trod enc Tryz.prog w base spare held fuel 22 cs = some x) :
  ∃ (a : Option Addr) (l : List Vr) (cap : Nat), cs = [.slice a l.length cap] ∧ l.length ≤ cap ∧ cap ≤ 9223372036854775807 ∧ RT w a l := by
 rcases open_slice und_vis h with ⟨rfl, _⟩ | ⟨a, len, cap, m, n, D, Pl, rfl, hb, hl, hm, hmm, hx, hi⟩
 ·exact ⟨none, [], 0, rfl, Nat.le_refl _, by omega, RT.empty _ _⟩
 ·have hle : len ≤ m := by rw [hmm]; split <;> omega
  have key : ∀ i, i < len → ∃ r : Vr, ∀ j, j < 8 → w.cell? (a.add (i * 8 + j)) = (vr8 r)[j]? := by
   intro i hil
   obtain ⟨cs', hc, ht⟩ := hi i (by omega)
   rw [cof_r] at hc
   obtain ⟨r, rfl⟩ := row_cells ht
   obtain ⟨_, _, hat⟩ := World.cells?_some hc
   exact ⟨r, fun j hj => by rw [← Go.Deep.add_add]; exact hat j hj⟩
  obtain ⟨f, hf⟩ := choose_lt key
  refine ⟨some a, (List.range len).map f, cap, by simp, by simpa using hl, by simpa [maxLen] using hm, fm_len _ _ vr8_len _, fun hn => ?_⟩
  have hn' : 0 < len := by simpa using hn
  have h0 := hf 0 hn' 0 (by omega)
  have ha : a = ⟨a.block, a.off, none⟩ := plain_addr (by simpa [Addr.add, vr8] using h0)
  have hlt := World.block_lt_of_cell? w (a.add (0 * 8 + 0)) h0
  refine ⟨a.block, a.off, by rw [← ha], hlt, fun j u hu => ?_⟩
  have hj : j < len * 8 := by
   have := (List.getElem?_eq_some_iff.1 hu).1
   rw [show (vrc ((List.range len).map f)).length = ((List.range len).map f).length * 8 from fm_len _ _ vr8_len _] at this
   simpa using this
  have e : j / 8 * 8 + j % 8 = j := by omega
  have hi8 : j / 8 < ((List.range len).map f).length := by simp; omega
  have g := fm_get vr8 8 vr8_len ((List.range len).map f) (j / 8) (j % 8) hi8 (by omega)
  rw [e] at g
  have h1 := hf (j / 8) (by omega) (j % 8) (by omega)
  rw [e, ha, add_plain] at h1
  have h2 : w.cell? ⟨a.block, a.off + j, none⟩ = (vr8 (f (j / 8)))[j % 8]? := h1
  rw [h2]
  unfold vrc at hu
  rw [g] at hu
  simpa using hu
theorem open_bools {fuel : Nat} {cs : List Value} {x : DataW H × List MemPlace} (h : DataW.trod enc Tryz.prog w base spare held fuel 50 cs = some x) :
  ∃ (a : Option Addr) (l : List Bool) (cap : Nat), cs = [.slice a l.length cap] ∧ l.length ≤ cap ∧ cap ≤ 9223372036854775807 ∧ RB w a l := by
 rcases open_slice1 Tryz.underlying50 (by kernel_rfl) h with ⟨rfl, _⟩ | ⟨a, len, cap, m, n, V, D, Pl, rfl, hb, hl, hm, hmm, hx, hi⟩
 ·exact ⟨none, [], 0, rfl, Nat.le_refl _, by omega, rfl, fun h => by simp at h⟩
 ·have hle : len ≤ m := by rw [hmm]; split <;> omega
  have key : ∀ i, i < len → ∃ r : Bool, w.cell? (a.add i) = some (.bool r) := by
   intro i hil
   obtain ⟨hc, ht⟩ := hi i (by omega)
   obtain ⟨r, e, _⟩ := DataW.trod_bool Tryz.underlying4 ht
   simp only [List.cons.injEq, and_true] at e
   exact ⟨r, by rw [hc, e]⟩
  obtain ⟨f, hf⟩ := choose_lt key
  refine ⟨some a, (List.range len).map f, cap, by simp, by simpa using hl, by simpa [maxLen] using hm, by simp, fun hn => ?_⟩
  have hn' : 0 < len := by simpa using hn
  have h0 := hf 0 hn'
  have ha : a = ⟨a.block, a.off, none⟩ := plain_addr (by simpa [Addr.add] using h0)
  have hlt := World.block_lt_of_cell? w (a.add 0) h0
  refine ⟨a.block, a.off, by rw [← ha], hlt, fun j u hu => ?_⟩
  have hj : j < len := by
   have := (List.getElem?_eq_some_iff.1 hu).1
   simpa using this
  have h1 := hf j hj
  rw [ha, add_plain] at h1
  have h2 : w.cell? ⟨a.block, a.off + j, none⟩ = some (.bool (f j)) := h1
  rw [h2]
  simpa [hj] using hu
theorem open_mask {r : Reach} {b0 : Nat} {v : Value} {d : DataW H} {p : List MemPlace} (hv : Value.okWide Tryz.prog w r b0 52 v) (h : DataW.Trod enc Tryz.prog w base spare held 52 v d p) :
  ∃ (t c : Int) (A : Option Addr) (l : List Bool) (cap : Nat), v = Mv t c A l.length cap ∧ l.length ≤ cap ∧ RB w A l := by
 obtain ⟨c0, c1, c2, y0, y1, y2, m, rfl, _, _, t0, t1, t2⟩ := open_agg3 Tryz.underlying52 (by kernel_rfl) (show Tryz.prog.cellsOf 52 = 3 by kernel_rfl) hv h
 obtain ⟨t, rfl⟩ := int_oneT rfl t0
 obtain ⟨c, rfl⟩ := int_oneT rfl t1
 obtain ⟨A, l, cap, e, h1, _, h2⟩ := open_bools t2
 simp only [List.cons.injEq, and_true] at e
 subst e
 exact ⟨t, c, A, l, cap, rfl, h1, h2⟩
theorem open_rowsv {r : Reach} {b0 : Nat} {v : Value} {d : DataW H} {p : List MemPlace} (hv : Value.okWide Tryz.prog w r b0 22 v) (h : DataW.Trod enc Tryz.prog w base spare held 22 v d p) :
  ∃ (A : Option Addr) (l : List Vr) (cap : Nat), v = .slice A l.length cap ∧ l.length ≤ cap ∧ cap ≤ 9223372036854775807 ∧ RT w A l := by
 obtain ⟨fuel, hf⟩ := h
 obtain ⟨sa, sl, sc, rfl⟩ := okWide_slice und_vis hv
 obtain ⟨A, l, cap, e, h1, h2, h3⟩ := open_vrows (cs := [.slice sa sl sc]) hf
 simp only [List.cons.injEq, and_true, Value.slice.injEq] at e
 obtain ⟨rfl, rfl, rfl⟩ := e
 exact ⟨_, l, _, rfl, h1, h2, h3⟩
end
end
section
open Go.ChangeShapes Go.WideShapes Go.ChangeAt Go.RowKit
theorem star : "*" ++ "errors.errorString" = "*errors.errorString" := by decide
theorem rowE (u : TypeId) (h : Tryz.prog.typeName? 3 u = some "*errors.errorString") : u = 198 :=
 typeName_ptr_named (nm := "errors.errorString") (by rw [star]; kernel_rfl) (by kernel_rfl) (by decide) u (by rw [star]; exact h)
theorem gl_of {W : World} (hL : laidMet Tryz.prog [("math/bits.deBruijn32tab", Rows.laid_math_bits_deBruijn32tab), ("math/bits.deBruijn64tab", Rows.laid_math_bits_deBruijn64tab), ("internal/strconv.uint64pow10", Rows.laid_internal_strconv_uint64pow10), ("unicode/utf8.acceptRanges", Rows.laid_unicode_utf8_acceptRanges), ("strconv.ErrRange", Rows.laid_strconv_ErrRange), ("strconv.ErrSyntax", Rows.laid_strconv_ErrSyntax), ("unicode/utf8.first", Rows.laid_unicode_utf8_first)] W) (hsh : W.ShapedOpen Tryz.prog) : GL W := by
 have h1 := hL.tail.tail
 have h2 := h1.tail.tail
 have h3 := h2.tail
 refine ⟨Lib.tabIs_of_head (g := 3) (by kernel_rfl) (t := 191) (by kernel_rfl) Tryz.underlying191 Tryz.underlying147 (by kernel_rfl) (by kernel_rfl) h1, ?_, ?_, Tryz.laysM145.s1_3 W hsh⟩
 ·obtain ⟨a, s, hv, _⟩ := laid_sentinel h3 (g := 1) (by kernel_rfl) (ti := 70) (by kernel_rfl) Tryz.underlying70 rowE Tryz.underlying198 Tryz.underlying200 rfl rfl Tryz.underlying9 (by kernel_rfl) (by kernel_rfl)
  exact ⟨_, _, hv⟩
 ·obtain ⟨a, s, hv, _⟩ := laid_sentinel h2 (g := 2) (by kernel_rfl) (ti := 70) (by kernel_rfl) Tryz.underlying70 rowE Tryz.underlying198 Tryz.underlying200 rfl rfl Tryz.underlying9 (by kernel_rfl) (by kernel_rfl)
  exact ⟨_, _, hv⟩
theorem rows_lt {W : World} {base : Nat} {A : Option Addr} {n c : Nat} (h : Value.okWide Tryz.prog W .any base 22 (.slice A n c)) : ∀ b off, A = some ⟨b, off, none⟩ → b < W.heap.size := by
 rintro b off rfl
 simp only [Value.okWide, und_vis, Cell.okWide, Cell.ok, World.has] at h
 obtain ⟨-, -, -, -, row, cells, hsh, -⟩ := h
 rcases Nat.lt_or_ge b W.heap.size with h' | h'
 ·exact h'
 ·exfalso
  simp [World.shape?, Array.getElem?_eq_none h'] at hsh
end
end Go.Proofs.YtbbnkclajpaghaaGreatDoor
