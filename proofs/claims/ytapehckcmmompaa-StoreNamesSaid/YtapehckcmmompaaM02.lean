/- Several texts in one. -/
import Derived.Deep.DeepCutAuto
import Derived.Test.YtapehckcmmompaaM01
namespace Go.Proofs.Ytapehckcmmompaa
open Go.ChangeShapes Go.WideShapes Go.ChangeAt Go.RowKit Gf
set_option linter.unusedVariables false
set_option maxRecDepth 100000
attribute [local go_sem ↓] Go.wp_at_zero Go.wp_at_succ
def fitB (m r : List (List Nat)) : Bool := (List.range m.length).all fun i => decide ((m.getD i []).length = 0) || decide (m.getD i [] = r.getD i [])
theorem fitB_false {m r : List (List Nat)} {k : Nat} {l l' : List Nat} (hk : m[k]? = some l) (hk' : r[k]? = some l') (h0 : 0 < l.length) (h : l ≠ l') : fitB m r = false := by
 unfold fitB
 rw [List.all_eq_false]
 refine ⟨k, by simpa using get_lt hk, ?_⟩
 rw [getD_of hk, getD_of hk', decide_eq_false (by omega), decide_eq_false h]
 decide
theorem fitB_true {m r : List (List Nat)} (hl : m.length = r.length) (h : ∀ (j : Nat) (l l' : List Nat), m[j]? = some l → r[j]? = some l' → l.length = 0 ∨ l = l') : fitB m r = true := by
 unfold fitB
 rw [List.all_eq_true]
 intro i hi
 obtain ⟨l, e⟩ := get_some (show i < m.length by simpa using hi)
 obtain ⟨l', e'⟩ := get_some (show i < r.length by rw [← hl]; simpa using hi)
 rw [getD_of e, getD_of e']
 rcases h i l l' e e' with h | h <;> simp [h]
theorem fitB_out {m r : List (List Nat)} (h : fitB m r = true) {j : Nat} {l l' : List Nat} (e : m[j]? = some l) (e' : r[j]? = some l') : l.length = 0 ∨ l = l' := by
 unfold fitB at h
 rw [List.all_eq_true] at h
 have := h j (by simpa using get_lt e)
 rw [getD_of e, getD_of e'] at this
 simpa using this
def lostL (m : List (List Nat)) (k : Nat) : List Nat := (List.range k).filter fun i => decide ((m.getD i []).length = 0)
def iv (l : List Nat) : List Value := l.map fun (x : Nat) => Value.int .i64 (x : Int)
theorem iv_append (l m : List Nat) : iv (l ++ m) = iv l ++ iv m := by simp [iv]
theorem iv_get {l : List Nat} {k x : Nat} (h : l[k]? = some x) : (iv l)[k]? = some (.int .i64 (x : Int)) := by simp [iv, h]
theorem lostL_succ {m : List (List Nat)} {k : Nat} {l : List Nat} (h : m[k]? = some l) : lostL m (k + 1) = if l.length = 0 then lostL m k ++ [k] else lostL m k := by
 unfold lostL
 rw [List.range_succ, List.filter_append]
 rw [show List.filter (fun i => decide ((m.getD i []).length = 0)) [k] = if l.length = 0 then [k] else [] by rw [List.filter_cons, getD_of h, List.filter_nil]; simp only [decide_eq_true_eq]]
 by_cases h0 : l.length = 0
 ·rw [if_pos h0, if_pos h0]
 ·rw [if_neg h0, if_neg h0, List.append_nil]
theorem lostL_count {m : List (List Nat)} : ∀ k, k ≤ m.length → (lostL m k).length = lostN (m.take k)
 | 0, _ => by simp [lostL, lostN]
 | k + 1, h => by
  obtain ⟨l, hl⟩ := get_some (show k < m.length by omega)
  rw [lostL_succ hl, lostN_snoc hl, ← lostL_count k (by omega)]
  split
  ·simp
  ·simp
theorem int_info : (Try.prog.info? 3).map (fun i => (i.zero, i.size, i.bytes)) = some (some (.int .i64 0), 1, 8) := by kernel_rfl
end Go.Proofs.Ytapehckcmmompaa
namespace Go.Proofs.Ytapehckcmmompaa
open Go.ChangeShapes Go.WideShapes Go.ChangeAt Go.RowKit Gf
set_option linter.unusedVariables false
set_option maxRecDepth 100000
attribute [local go_sem ↓] Go.wp_at_zero Go.wp_at_succ
def SPost (w : World) (s : St) (e : Ending) (w' : World) : Prop := ∃ v, e = .returned (Sv s.1 s.2.1 v) ∧ OM w.heap.size w' v s.2.2 ∧ Below w.heap.size w w'
end Go.Proofs.Ytapehckcmmompaa
namespace Go.Proofs.Ytapehckcmmompaa
open Go.ChangeShapes Go.WideShapes Go.ChangeAt Go.RowKit Gf
set_option linter.unusedVariables false
set_option maxRecDepth 100000
attribute [local go_sem ↓] Go.wp_at_zero Go.wp_at_succ
theorem set_get {α : Type} {us : List α} {k i : Nat} {u x : α} (h : (us.set k u)[i]? = some x) : (i = k ∧ x = u ∧ k < us.length) ∨ (i ≠ k ∧ us[i]? = some x) := by
 rw [List.getElem?_set] at h
 by_cases e : k = i
 ·rw [if_pos e] at h
  subst e
  by_cases hl : k < us.length
  ·rw [if_pos hl] at h; exact .inl ⟨rfl, by simpa using h.symm, hl⟩
  ·rw [if_neg hl] at h; cases h
 ·rw [if_neg e] at h; exact .inr ⟨fun e' => e e'.symm, h⟩
theorem OMx.setRow {B : Nat} {W0 W : World} {u : Value} {us : List Value} {m : List (List Nat)} {l : List Nat} {hb n cap k : Nat} (h : OMx B W0 (.slice (some ⟨hb, 0, none⟩) n cap) us m) (hn : m.length = n) (hbel : Below W0.heap.size W0 W) (hu : OB W0.heap.size W u l) (hl : Byt l) (hB : B ≤ W0.heap.size) :
  OMx B (W.setCell ⟨hb, k, none⟩ u) (.slice (some ⟨hb, 0, none⟩) n cap) (us.set k u) (m.set k l) := by
 subst hn
 have ht := own_next hbel h.top
 have st := ht.stored k u
 have keep : ∀ {base : Nat} {x : Value} {y : List Nat}, OB base W x y → OB base (W.setCell ⟨hb, k, none⟩ u) x y := fun hx => hx.kept st.2 (own_own ht hx (by decide))
 have old : ∀ {i : Nat} {x : Value}, us[i]? = some x → ∀ g, x.ownBlock = some g → g < W0.heap.size := fun {i x} h1 g hg' => by
  obtain ⟨y, hy⟩ := get_some (show i < m.length by have := get_lt h1; rw [h.len] at this; exact this)
  exact ((h.row i x y h1 hy).lt g hg').2
 have new : ∀ g, u.ownBlock = some g → W0.heap.size ≤ g := fun g hg' => (hu.lt g hg').1
 refine ⟨by simpa using st.1, fun i x y hx hy => ?_, fun y hy => ?_, fun i j x x' hx hx' hij => ?_⟩
 ·rcases set_get hx with ⟨rfl, rfl, _⟩ | ⟨h1, h2⟩
  ·rcases set_get hy with ⟨_, rfl, _⟩ | ⟨h3, _⟩
   ·exact own_mono (keep hu) hB
   ·exact absurd rfl h3
  ·rcases set_get hy with ⟨h3, _⟩ | ⟨_, h4⟩
   ·exact absurd h3 h1
   ·exact keep (own_next hbel (h.row i x y h2 h4))
 ·rcases List.mem_or_eq_of_mem_set hy with h1 | rfl
  ·exact h.byt y h1
  ·exact hl
 ·rcases set_get hx with ⟨e1, rfl, _⟩ | ⟨h1, h2⟩
  ·rcases set_get hx' with ⟨e2, _, _⟩ | ⟨h3, h4⟩
   ·omega
   ·cases e : x.ownBlock with
    | none => exact .inl rfl
    | some g =>
     refine .inr fun e' => ?_
     have := old h4 g e'.symm
     have := new g e
     omega
  ·rcases set_get hx' with ⟨e2, rfl, _⟩ | ⟨h3, h4⟩
   ·cases e : x.ownBlock with
    | none => exact .inl rfl
    | some g =>
     refine .inr fun e' => ?_
     have := old h2 g e
     have := new g e'.symm
     omega
   ·exact h.apart i j x x' h2 h4 hij
theorem make_rows (W : World) (n : Nat) (h : n ≤ 1000000) : (Instr.makeSlice 44 (.int .i64 (n : Int)) (.int .i64 (n : Int))).run Try.prog W = .ok (.slice (some ⟨W.heap.size, 0, none⟩) n n) (W.alloc (.cells (madeCells #[.slice none 0 0] n) 26)) :=
 run_make_row' 44 26 (.slice none 0 0) 24 Try.underlying44 sl_info rfl .i64 .i64 n (by omega) (by omega) W
theorem nil_rows {B : Nat} (W : World) (n : Nat) (h : n ≤ 9223372036854775807) (hB : B ≤ W.heap.size) : OMx B (W.alloc (.cells (madeCells #[.slice none 0 0] n) 26)) (.slice (some ⟨W.heap.size, 0, none⟩) n n) (List.replicate n (.slice none 0 0)) (List.replicate n []) := by
 have := World.ownsRow_lit (base := B) (size := 1) (e := 26) W (madeCells #[.slice none 0 0] n) n hB (by simp [maxLen]; omega) (by rw [size_madeCells]; omega)
 rw [toList_madeCells_one] at this
 refine ⟨by simpa using this, fun i u l hu hl => ?_, fun l hl => ?_, fun i j u u' hu hu' hij => ?_⟩
 ·have e1 := List.eq_of_mem_replicate (List.mem_of_getElem? hu)
  have e2 := List.eq_of_mem_replicate (List.mem_of_getElem? hl)
  subst e1 e2
  exact World.ownsRow_nil _ _ _ _
 ·have e2 := List.eq_of_mem_replicate hl
  subst e2; exact Byt.nil
 ·have e1 := List.eq_of_mem_replicate (List.mem_of_getElem? hu)
  subst e1
  exact .inl rfl
theorem nil_rows_at {B hb : Nat} (W : World) (n : Nat) (h : n ≤ 9223372036854775807) (hB : B ≤ W.heap.size) (he : hb = W.heap.size) : OMx B (W.alloc (.cells (madeCells #[.slice none 0 0] n) 26)) (.slice (some ⟨hb, 0, none⟩) n n) (List.replicate n (.slice none 0 0)) (List.replicate n []) := by
 rw [he]; exact nil_rows W n h hB
def keepTo (m : List (List Nat)) (p : Nat → Bool) (k : Nat) : List (List Nat) := (List.range m.length).map fun i => if i < k ∧ p i = false then m.getD i [] else []
def keepL (m : List (List Nat)) (p : Nat → Bool) : List (List Nat) := (List.range m.length).map fun i => if p i then [] else m.getD i []
theorem keepTo_len (m : List (List Nat)) (p : Nat → Bool) (k : Nat) : (keepTo m p k).length = m.length := by simp [keepTo]
theorem keepL_len (m : List (List Nat)) (p : Nat → Bool) : (keepL m p).length = m.length := by simp [keepL]
theorem keepTo_zero (m : List (List Nat)) (p : Nat → Bool) : keepTo m p 0 = List.replicate m.length [] := by
 unfold keepTo
 rw [List.eq_replicate_iff]
 refine ⟨by simp, fun b hb => ?_⟩
 simp only [List.mem_map] at hb
 obtain ⟨i, _, rfl⟩ := hb
 rw [if_neg (by omega)]
theorem keepTo_full (m : List (List Nat)) (p : Nat → Bool) : keepTo m p m.length = keepL m p := by
 unfold keepTo keepL
 apply List.map_congr_left
 intro i hi
 have := List.mem_range.1 hi
 cases p i
 ·rw [if_pos ⟨this, rfl⟩]; rfl
 ·rw [if_neg (by simp)]; rfl
theorem keepTo_skip {m : List (List Nat)} {p : Nat → Bool} {k : Nat} {l : List Nat} (hk : m[k]? = some l) (h : p k = true ∨ l.length = 0) : keepTo m p (k + 1) = keepTo m p k := by
 unfold keepTo
 apply List.map_congr_left
 intro i hi
 by_cases e : i = k
 ·subst e
  rw [if_neg (by omega : ¬ (i < i ∧ p i = false))]
  rcases h with h | h
  ·rw [if_neg (by rw [h]; simp)]
  ·rw [getD_of hk, List.eq_nil_of_length_eq_zero h]; split <;> rfl
 ·by_cases hlt : i < k
  ·simp only [show i < k + 1 by omega, hlt]
  ·simp only [show ¬ i < k + 1 by omega, hlt]
theorem keepTo_put {m : List (List Nat)} {p : Nat → Bool} {k : Nat} {l : List Nat} (hk : m[k]? = some l) (h : p k = false) : keepTo m p (k + 1) = (keepTo m p k).set k l := by
 apply List.ext_getElem?
 intro i
 have hl := get_lt hk
 rw [List.getElem?_set]
 by_cases hi : i < m.length
 ·have e1 : (keepTo m p (k + 1))[i]? = some (if i < k + 1 ∧ p i = false then m.getD i [] else []) := by simp only [keepTo, List.getElem?_map, List.getElem?_range hi, Option.map_some]
  have e2 : (keepTo m p k)[i]? = some (if i < k ∧ p i = false then m.getD i [] else []) := by simp only [keepTo, List.getElem?_map, List.getElem?_range hi, Option.map_some]
  rw [e1, e2]
  by_cases e : k = i
  ·subst e
   rw [if_pos rfl, if_pos (show k < k + 1 ∧ p k = false from ⟨by omega, h⟩), if_pos (by rw [keepTo_len]; exact hl), getD_of hk]
  ·rw [if_neg e]
   by_cases hlt : i < k
   ·simp only [show i < k + 1 by omega, hlt]
   ·simp only [show ¬ i < k + 1 by omega, hlt]
 ·rw [List.getElem?_eq_none (by rw [keepTo_len]; omega)]
  by_cases e : k = i
  ·omega
  ·rw [if_neg e, List.getElem?_eq_none (by rw [keepTo_len]; omega)]
set_option maxHeartbeats 2000000 in
theorem without_calls (D M : Int) (A : Option Addr) (c B fn : Nat) (P : Value) (p : Nat → Bool) (m : List (List Nat)) (w : World) (hn : m.length ≤ c) (hc : c ≤ 9223372036854775807) (hm : m.length ≤ 100) (hs : RMA B w A m) (hlen : ∀ l ∈ m, l.length ≤ 100)
  (hcf : ∀ (args : Array Value) (W : World), Sem.run Try.prog (callFunc fn args) W = .ok (.enter fn args) W)
  (hg : ∀ W : World, Below w.heap.size w W → ∀ k, k < m.length → Calls Try.prog fn #[.int .i64 (k : Int), P] W (fun e w' => e = .returned (.bool (p k)) ∧ W = w')) :
  Calls Try.prog 76 #[Sv D M (.slice A m.length c), .func (.func fn) #[] #[P]] w (SPost w (D, M, keepL m p)) := by
 have HS := Lib.hid hs
 have HLEN := Lib.hid hlen
 have HG := Lib.hid hg
 have mk := fun W => make_rows W m.length (by omega)
 clear hs hlen hg
 go_enter Try.func76, Try.ntmps76
 go_upto_region 1 with fail
 go_cut [5] (fun s5 wx => ∃ cb hb : Nat, s5 = .pointer (some ⟨cb, 0, none⟩) ∧ w.heap.size + 1 < cb ∧ w.heap.size + 1 < hb ∧ Hid (Below w.heap.size w wx) ∧ Hid (wx.heap[w.heap.size]? = some (.cells #[.int .i64 D, .int .i64 M, .slice A m.length c] 54)) ∧ Hid (wx.heap[w.heap.size + 1]? = some (.cells #[.int .i64 0, .int .i64 0, .slice none 0 0] 54)) ∧ Hid (wx.heap[cb]? = some (.cells #[.int .i64 D, .int .i64 M, .slice (some ⟨hb, 0, none⟩) m.length m.length] 54)) ∧ Hid (OMx w.heap.size wx (.slice (some ⟨hb, 0, none⟩) m.length m.length) (List.replicate m.length (.slice none 0 0)) (List.replicate m.length [])))
 case first =>
  go_region
  ·go_wp2_with fail
   go_meet
   refine ⟨w.heap.size + 1 + 1 + 1, w.heap.size + 1 + 1, rfl, by omega, by omega, Lib.hid ?_, Lib.hid ?_, Lib.hid ?_, Lib.hid ?_, Lib.hid ?_⟩
   ·repeat (first | exact Below.refl _ _ | refine Below.drew ?_ | refine Bal ?_ _)
   ·exact blk_alloc (blk_alloc (blk_alloc (blk_new w _) _) _) _
   ·exact blk_alloc (blk_alloc (blk_at _ (by simp)) _) _
   ·exact blk_at _ (by simp)
   ·exact (nil_rows_at _ m.length (by omega) (by simp; omega) (by simp)).next (Bal (Below.refl _ _) _).drew
  ·go_wp2_with fail
   go_meet
   refine ⟨w.heap.size + 1 + 1, w.heap.size + 1 + 1 + 1, rfl, by omega, by omega, Lib.hid ?_, Lib.hid ?_, Lib.hid ?_, Lib.hid ?_, Lib.hid ?_⟩
   ·repeat (first | exact Below.refl _ _ | refine Below.drew ?_ | refine Bal ?_ _)
   ·exact blk_alloc (blk_alloc (blk_alloc (blk_new w _) _) _) _
   ·exact blk_alloc (blk_alloc (blk_at _ (by simp)) _) _
   ·exact blk_alloc (blk_at _ (by simp)) _
   ·exact (nil_rows_at _ m.length (by omega) (by simp; omega) (by simp)).next (Below.refl _ _).drew
 case rest =>
  obtain ⟨cb, hb, rfl, hcb, hhb, N0, SB0, X0, Y0, O0⟩ := hcut
  have s2 : wc.cell? ⟨w.heap.size, 2, none⟩ = some (.slice A m.length c) := blk_cell SB0.out 2 _ rfl
  go_wp2_with fail
  clear s2
  go_loopw [20] (fun i wr => ∃ (k : Nat) (us : List Value), k ≤ m.length ∧ i = .int .i64 k ∧ Hid (Below w.heap.size w wr) ∧ Hid (wr.heap[w.heap.size + 1]? = some (.cells #[.int .i64 0, .int .i64 0, .slice none 0 0] 54)) ∧ Hid (wr.heap[cb]? = some (.cells #[.int .i64 D, .int .i64 M, .slice (some ⟨hb, 0, none⟩) m.length m.length] 54)) ∧ Hid (OMx w.heap.size wr (.slice (some ⟨hb, 0, none⟩) m.length m.length) us (keepTo m p k))) (fun i _ => m.length - (intOf i).toNat)
  case atStart => exact ⟨0, _, by omega, rfl, N0, X0, Y0, by rw [keepTo_zero]; exact O0⟩
  case round =>
   clear N0 SB0 X0 Y0 O0
   obtain ⟨k, us, hk, rfl, N, X, Y, O⟩ := hrel
   by_cases hlt : k < m.length
   ·obtain ⟨l, hl⟩ := get_some hlt
    obtain ⟨b, off, Ai, ci, rfl, hb4, h1, h2, h3, h4⟩ := (HS.out.next N.out).at_ hl
    have hln : l.length ≤ 100 := HLEN.out l (List.mem_of_getElem? hl)
    have HB4 := Lib.hid h4
    have HL := Lib.hid hl
    have HC := Lib.hid (fun W (h : Below w.heap.size w W) => HG.out W h k hlt)
    have y2 : wr.cell? ⟨cb, 2, none⟩ = some (.slice (some ⟨hb, 0, none⟩) m.length m.length) := blk_cell Y.out 2 _ rfl
    have hz : cb < wr.heap.size := blk_lt Y.out
    have k1 : (0 : Int) ≤ (k : Int) := by omega
    have k2 : (k : Int) < (m.length : Int) := by omega
    clear hl h4
    cases hp : p k
    ·rw [hp] at HC
     have HP := Lib.hid hp
     clear hp
     by_cases h0 : l.length = 0
     ·have q : ((l.length : Int) != 0) = false := by rw [h0]; rfl
      have H0 := Lib.hid h0
      clear h0
      go_wp2_with fail
      refine (HC.out _ N.out).mono ?_
      rintro e w1 ⟨rfl, rfl⟩
      go_wp2_with fail
      exact ⟨⟨k + 1, us, by omega, by go_num, N, X, Y, by rw [keepTo_skip HL.out (.inr H0.out)]; exact O⟩, by simp [intOf]; omega⟩
     ·have q : ((l.length : Int) != 0) = true := by rw [bne_iff_ne]; omega
      clear h0
      go_wp2_with fail
      refine (HC.out _ N.out).mono ?_
      rintro e w1 ⟨rfl, rfl⟩
      go_wp2_with fail
      obtain ⟨u0, hu0⟩ := get_some (show k < us.length by rw [O.out.len, keepTo_len]; exact hlt)
      have TOP : Hid (wr.ownsRow w.heap.size 26 1 (.slice (some ⟨hb, 0, none⟩) m.length m.length) m.length us) := Lib.hid (by have := O.out.top; rw [keepTo_len] at this; exact this)
      have HU0 := Lib.hid hu0
      have HK : Hid (k < m.length * 1) := Lib.hid (by omega)
      have HNE : Hid (hb ≠ cb) := Lib.hid (fun e => own_ne TOP.out Y.out ne_sl_st (by rw [e]; rfl))
      clear hu0
      go_region_held3 (fun W => W.cell? ⟨cb, 2, none⟩ = some (.slice (some ⟨hb, 0, none⟩) m.length m.length)) (first | (exact blk_cell Y1.out 2 _ rfl) | (exact blk_cell Y.out 2 _ rfl) | (exact blk_cell (blk_set_other Y1.out HNE.out k _) 2 _ rfl))
       ((go_at_call 63; refine (clone_calls Ai ci B l _ (by omega) ?_).mono ?_; (first | exact HB4.out | exact HB4.out.next (Below.refl _ _).drew); rintro e w1 ⟨u, rfl, hu, hb1⟩; obtain ⟨Au, cu, rfl, hu1, hu2, _⟩ := own_form hu; have U1 : Hid (OB wr.heap.size w1 (.slice Au l.length cu) l) := Lib.hid hu; have N1 : Hid (Below wr.heap.size wr w1) := Lib.hid (by first | exact hb1 | exact (Below.refl _ _).drew.trans hb1); have Y1 := Lib.hid (blk_next N1.out Y.out); have c9 : w1.cell? ⟨hb, k, none⟩ = some u0 := ((own_next N1.out TOP.out).cellAt k HK.out).trans HU0.out; have f9 : w1.frozen? ⟨hb, k, none⟩ = false := (own_next N1.out TOP.out).frozenAt k; clear hu hb1))
      go_wp2_with fail
      refine ⟨⟨k + 1, us.set k (.slice Au l.length cu), by omega, by go_num, Lib.hid ?_, Lib.hid ?_, Lib.hid ?_, Lib.hid ?_⟩, by simp [intOf]; omega⟩
      ·first | exact Bset1 (Bgo N.out N1.out) (by omega) k _ | exact (Bset1 (Bgo N.out N1.out) (by omega) k _).drew
      ·exact blk_set_other (blk_next N1.out X.out) (by omega) k _
      ·exact blk_set_other Y1.out HNE.out k _
      ·rw [keepTo_put HL.out HP.out]
       exact OMx.setRow O.out (keepTo_len _ _ _) N1.out U1.out HB4.out.1 N.out.size
    ·rw [hp] at HC
     have HP := Lib.hid hp
     clear hp
     go_wp2_with fail
     refine (HC.out _ N.out).mono ?_
     rintro e w1 ⟨rfl, rfl⟩
     go_wp2_with fail
     exact ⟨⟨k + 1, us, by omega, by go_num, N, X, Y, by rw [keepTo_skip HL.out (.inl HP.out)]; exact O⟩, by simp [intOf]; omega⟩
   ·obtain rfl : k = m.length := by omega
    have y0 : wr.cell? ⟨cb, 0, none⟩ = some (.int .i64 D) := blk_cell Y.out 0 _ rfl
    have y1 : wr.cell? ⟨cb, 1, none⟩ = some (.int .i64 M) := blk_cell Y.out 1 _ rfl
    have y2 : wr.cell? ⟨cb, 2, none⟩ = some (.slice (some ⟨hb, 0, none⟩) m.length m.length) := blk_cell Y.out 2 _ rfl
    have x0 : wr.cell? ⟨w.heap.size + 1, 0, none⟩ = some (.int .i64 0) := blk_cell X.out 0 _ rfl
    have x1 : wr.cell? ⟨w.heap.size + 1, 1, none⟩ = some (.int .i64 0) := blk_cell X.out 1 _ rfl
    have x2 : wr.cell? ⟨w.heap.size + 1, 2, none⟩ = some (.slice none 0 0) := blk_cell X.out 2 _ rfl
    have f0 : wr.frozen? ⟨w.heap.size + 1, 0, none⟩ = false := blk_frozen X.out 0
    have f1 : wr.frozen? ⟨w.heap.size + 1, 1, none⟩ = false := blk_frozen X.out 1
    have f2 : wr.frozen? ⟨w.heap.size + 1, 2, none⟩ = false := blk_frozen X.out 2
    go_wp2_with fail
    have Z := blk_set3 X.out (.int .i64 D) (.int .i64 M) (.slice (some ⟨hb, 0, none⟩) m.length m.length)
    have e0 := blk_cell Z 0 _ rfl
    have e1 := blk_cell Z 1 _ rfl
    have e2 := blk_cell Z 2 _ rfl
    refine bodyPost_ret (v := Sv D M (.slice (some ⟨hb, 0, none⟩) m.length m.length)) (by simp [results, Try.results76, go_sem, e0, e1, e2]) rfl ⟨_, rfl, ⟨us, ?_⟩, ?_⟩
    ·have := O.out
     rw [keepTo_full] at this
     exact this.set3_ X.out _ _ _
    ·exact Bset3 N.out (by omega) _ _ _
end Go.Proofs.Ytapehckcmmompaa
namespace Go.Proofs.Ytapehckcmmompaa
open Go.ChangeShapes Go.WideShapes Go.ChangeAt Go.RowKit Gf
set_option linter.unusedVariables false
set_option maxRecDepth 100000
attribute [local go_sem ↓] Go.wp_at_zero Go.wp_at_succ
def ivI (l : List Int) : List Value := l.map fun (x : Int) => Value.int .i64 x
theorem ivI_get {l : List Int} {k : Nat} {x : Int} (h : l[k]? = some x) : (ivI l)[k]? = some (.int .i64 x) := by simp [ivI, h]
def RI (B : Nat) (w : World) (A : Option Addr) (l : List Int) : Prop := Hd B w A (ivI l)
theorem RI.next {B : Nat} {w w' : World} {A : Option Addr} {l : List Int} (hb : Below w.heap.size w w') (h : RI B w A l) : RI B w' A l := Hd.next hb h
theorem RI.at_ {B : Nat} {w : World} {A : Option Addr} {l : List Int} (h : RI B w A l) {k : Nat} {x : Int} (hk : l[k]? = some x) :
  ∃ b off, A = some ⟨b, off, none⟩ ∧ b < w.heap.size ∧ w.cell? ⟨b, off + k, none⟩ = some (.int .i64 x) := by
 obtain ⟨b, off, e, _, h2, h3⟩ := h k _ (ivI_get hk)
 exact ⟨b, off, e, h2, h3⟩
def goneB (ds : List Int) (k : Nat) : Bool := ds.any fun d => d == (k : Int)
def inB (n : Nat) (ds : List Int) : Bool := ds.all fun d => decide (0 ≤ d) && decide (d < (n : Int))
def loseE (D M : Int) (m : List (List Nat)) (ds : List Int) : Int :=
 if chkE D M m ≠ 0 then chkE D M m else if inB m.length ds = false then 2 else if ds.Nodup then (if szL (keepL m (goneB ds)) = 0 then 32 else 0) else 14
def loseS (D M : Int) (m : List (List Nat)) (ds : List Int) : St := if loseE D M m ds = 0 then (D, M, keepL m (goneB ds)) else (0, 0, [])
theorem loseS_err {D M : Int} {m : List (List Nat)} {ds : List Int} {er : Int} (h : loseE D M m ds = er) (h0 : er ≠ 0) : loseS D M m ds = (0, 0, []) := by unfold loseS; rw [h, if_neg h0]
theorem goneB_snoc {ds : List Int} {k x : Nat} {d : Int} (h : ds[k]? = some d) : goneB (ds.take (k + 1)) x = (goneB (ds.take k) x || (d == (x : Int))) := by
 unfold goneB
 rw [take_snoc' h, List.any_append]; simp
theorem nodup_snoc {ds : List Int} {k : Nat} {d : Int} (h : ds[k]? = some d) (hn : (ds.take k).Nodup) (hd : d ∉ ds.take k) : (ds.take (k + 1)).Nodup := by
 rw [take_snoc' h, List.nodup_append]
 exact ⟨hn, by simp, fun a ha b hb e => hd (by simp at hb; rw [← hb, ← e]; exact ha)⟩
theorem dup_not {ds : List Int} {k : Nat} {d : Int} (h : ds[k]? = some d) (hd : d ∈ ds.take k) : ¬ ds.Nodup := fun hn => by
 have hs : (ds.take (k + 1)).Nodup := hn.sublist (List.take_sublist _ _)
 rw [take_snoc' h, List.nodup_append] at hs
 exact hs.2.2 d hd d (by simp) rfl
theorem goneB_mem {ds : List Int} {x : Nat} : goneB ds x = true ↔ (x : Int) ∈ ds := by
 unfold goneB
 simp only [List.any_eq_true, beq_iff_eq]
 exact ⟨fun ⟨d, hd, e⟩ => e ▸ hd, fun h => ⟨_, h, rfl⟩⟩
theorem inB_false {n : Nat} {ds : List Int} {k : Nat} {d : Int} (h : ds[k]? = some d) (hd : d < 0 ∨ (n : Int) ≤ d) : inB n ds = false := by
 unfold inB
 rw [List.all_eq_false]
 exact ⟨d, List.mem_of_getElem? h, by simp; omega⟩
theorem inB_true {n : Nat} {ds : List Int} (h : ∀ (j : Nat) (d : Int), ds[j]? = some d → 0 ≤ d ∧ d < (n : Int)) : inB n ds = true := by
 unfold inB
 rw [List.all_eq_true]
 intro d hd
 obtain ⟨j, hj, rfl⟩ := List.mem_iff_getElem.1 hd
 have := h j _ (List.getElem?_eq_getElem hj)
 simp; omega
theorem inB_out {n : Nat} {ds : List Int} (h : inB n ds = true) {k : Nat} {d : Int} (hk : ds[k]? = some d) : 0 ≤ d ∧ d < (n : Int) := by
 unfold inB at h
 rw [List.all_eq_true] at h
 have := h d (List.mem_of_getElem? hk)
 simpa using this
theorem lose1_calls (x gb : Nat) (b : Bool) (w : World) (hx : x < 12) (h : w.cell? ⟨gb, x, none⟩ = some (.bool b)) :
  Calls Try.prog 78 #[.int .i64 (x : Int), .pointer (some ⟨gb, 0, none⟩)] w fun e w' => e = .returned (.bool b) ∧ w = w' := by
 go_enter Try.func78, Try.ntmps78
 go_wp2_with fail
 go_ret
 exact ⟨rfl, rfl⟩
theorem call_lose1 (args : Array Value) (W : World) : Sem.run Try.prog (callFunc 78 args) W = .ok (.enter 78 args) W := by kernel_rfl
theorem lost_all {m : List (List Nat)} : lostN m = m.length ↔ szL m = 0 := by
 induction m with
 | nil => simp [lostN, szL]
 | cons x m ih =>
  have := lostN_le m
  by_cases h : x.length = 0
  ·simp only [lostN, szL, if_pos h, List.length_cons]
   rw [← ih]; omega
  ·simp only [lostN, szL, if_neg h, List.length_cons]
   constructor
   ·omega
   ·intro h'; exact absurd h' h
set_option maxHeartbeats 2000000 in
theorem lose_calls (D M : Int) (A : Option Addr) (c B : Nat) (m : List (List Nat)) (Ad : Option Addr) (cd Bd : Nat) (ds : List Int) (w : World) (hn : m.length ≤ c) (hc : c ≤ 9223372036854775807) (hs : RMA B w A m) (hdn : ds.length ≤ cd) (hdc : cd ≤ 9223372036854775807) (hd : RI Bd w Ad ds) :
  Calls Try.prog 60 #[Sv D M (.slice A m.length c), .slice Ad ds.length cd] w (SEPost w (loseS D M m ds) (loseE D M m ds)) := by
 have HS := Lib.hid hs
 have HD := Lib.hid hd
 clear hs hd
 have CC := Lib.hid (fun W (h : RMA B W A m) => check_calls D M A c B m W hn hc h)
 by_cases ck : chkE D M m = 0
 ·have OKS := (chkE_ok ck).1
  have hmn : m.length ≤ 12 := by have := OKS.len; have := OKS.d8; have := OKS.m4; omega
  have F0 : Hid (loseE D M m ds = if inB m.length ds = false then 2 else if ds.Nodup then (if szL (keepL m (goneB ds)) = 0 then 32 else 0) else 14) := Lib.hid (by unfold loseE; rw [if_neg (by rw [ck]; decide)])
  rw [ck] at CC
  have OK := Lib.hid OKS
  clear ck OKS
  go_enter Try.func60, Try.ntmps60
  go_wp2_with fail
  refine (CC.out _ (HS.out.next (Bal (Bal (Below.refl _ _) _) _))).mono ?_
  rintro e w1 ⟨rfl, hb1⟩
  have N1 : Hid (Below w.heap.size w w1) := Lib.hid (Bgo (Bal (Bal (Below.refl _ _) _) _) hb1)
  have SB : Hid (w1.heap[w.heap.size]? = some (.cells #[.int .i64 D, .int .i64 M, .slice A m.length c] 54)) := Lib.hid (blk_next hb1 (blk_alloc (blk_new w _) _))
  have X1 : Hid (w1.heap[w.heap.size + 1]? = some (.cells #[.int .i64 0, .int .i64 0, .slice none 0 0] 54)) := Lib.hid (blk_next hb1 (blk_at _ (by simp)))
  clear hb1
  go_wp2_with fail
  go_loop [21] (fun i => ∃ k : Nat, k ≤ ds.length ∧ i = .int .i64 k ∧ Hid (∀ (j : Nat) (d : Int), j < k → ds[j]? = some d → 0 ≤ d ∧ d < (m.length : Int))) (fun i => ds.length - (intOf i).toNat)
  case atStart => exact ⟨0, by omega, rfl, Lib.hid (fun j l' h => by omega)⟩
  case round =>
   obtain ⟨k, hk, rfl, HN⟩ := hrel
   have s2 : w1.cell? ⟨w.heap.size, 2, none⟩ = some (.slice A m.length c) := blk_cell SB.out 2 _ rfl
   by_cases hlt : k < ds.length
   ·obtain ⟨d, hdk⟩ := get_some hlt
    obtain ⟨bd, od, rfl, hbd, hcd⟩ := (HD.out.next N1.out).at_ hdk
    have HDK := Lib.hid hdk
    clear hdk
    have cs : d < 0 ∨ (0 ≤ d ∧ (m.length : Int) ≤ d) ∨ (0 ≤ d ∧ d < (m.length : Int)) := by omega
    have x0 : w1.cell? ⟨w.heap.size + 1, 0, none⟩ = some (.int .i64 0) := blk_cell X1.out 0 _ rfl
    have x1 : w1.cell? ⟨w.heap.size + 1, 1, none⟩ = some (.int .i64 0) := blk_cell X1.out 1 _ rfl
    have x2 : w1.cell? ⟨w.heap.size + 1, 2, none⟩ = some (.slice none 0 0) := blk_cell X1.out 2 _ rfl
    have f0 : w1.frozen? ⟨w.heap.size + 1, 0, none⟩ = false := blk_frozen X1.out 0
    have f1 : w1.frozen? ⟨w.heap.size + 1, 1, none⟩ = false := blk_frozen X1.out 1
    have f2 : w1.frozen? ⟨w.heap.size + 1, 2, none⟩ = false := blk_frozen X1.out 2
    rcases cs with a | ⟨a, a2⟩ | ⟨a, a2⟩
    ·have FE : Hid (loseE D M m ds = 2) := Lib.hid (by rw [F0.out, if_pos (inB_false HDK.out (.inl a))])
     go_wp2_with fail
     have Z := blk_set3 X1.out (.int .i64 0) (.int .i64 0) (.slice none 0 0)
     have e0 := blk_cell Z 0 _ rfl
     have e1 := blk_cell Z 1 _ rfl
     have e2 := blk_cell Z 2 _ rfl
     rw [loseS_err FE.out (by decide), FE.out]
     refine bodyPost_ret (v := .tuple #[Sv 0 0 (.slice none 0 0), .int .i64 2]) (by simp [results, Try.results60, go_sem, e0, e1, e2]) rfl (SEPost.none_ ?_)
     exact Bset3 N1.out (by omega) _ _ _
    ·have FE : Hid (loseE D M m ds = 2) := Lib.hid (by rw [F0.out, if_pos (inB_false HDK.out (.inr a2))])
     go_wp2_with fail
     have Z := blk_set3 X1.out (.int .i64 0) (.int .i64 0) (.slice none 0 0)
     have e0 := blk_cell Z 0 _ rfl
     have e1 := blk_cell Z 1 _ rfl
     have e2 := blk_cell Z 2 _ rfl
     rw [loseS_err FE.out (by decide), FE.out]
     refine bodyPost_ret (v := .tuple #[Sv 0 0 (.slice none 0 0), .int .i64 2]) (by simp [results, Try.results60, go_sem, e0, e1, e2]) rfl (SEPost.none_ ?_)
     exact Bset3 N1.out (by omega) _ _ _
    ·go_wp2_with fail
     refine ⟨⟨k + 1, by omega, by go_num, Lib.hid ?_⟩, by simp [intOf]; omega⟩
     intro j d' hj hd'
     by_cases e : j = k
     ·subst e; rw [HDK.out] at hd'; cases hd'; exact ⟨a, a2⟩
     ·exact HN.out j d' (by omega) hd'
   ·obtain rfl : k = ds.length := by omega
    have IN : Hid (inB m.length ds = true) := Lib.hid (inB_true (fun j d h => HN.out j d (get_lt h) h))
    have F1 : Hid (loseE D M m ds = if ds.Nodup then (if szL (keepL m (goneB ds)) = 0 then 32 else 0) else 14) := Lib.hid (by rw [F0.out, IN.out, if_neg (by decide)])
    clear HN F0 hlt hk s2
    go_wp2_with fail
    have G0 : Hid (∃ cs : Array Value, (w1.alloc (.cells #[.bool false, .bool false, .bool false, .bool false, .bool false, .bool false, .bool false, .bool false, .bool false, .bool false, .bool false, .bool false] 113)).heap[w1.heap.size]? = some (.cells cs 113) ∧ cs.size = 12 ∧ ∀ x, x < 12 → cs[x]? = some (.bool (goneB (ds.take 0) x))) := Lib.hid ⟨_, blk_new w1 _, rfl, fun x hx => by
     rw [List.take_zero]
     have : ∀ x < 12, (#[Value.bool false, .bool false, .bool false, .bool false, .bool false, .bool false, .bool false, .bool false, .bool false, .bool false, .bool false, .bool false])[x]? = some (.bool false) := by
      intro x hx
      match x, hx with
      | 0, _ | 1, _ | 2, _ | 3, _ | 4, _ | 5, _ | 6, _ | 7, _ | 8, _ | 9, _ | 10, _ | 11, _ => rfl
     exact this x hx⟩
    go_loopw [38] (fun i wr => ∃ k : Nat, k ≤ ds.length ∧ i = .int .i64 k ∧ Hid (Below w1.heap.size w1 wr) ∧ Hid ((ds.take k).Nodup) ∧ Hid (∃ cs : Array Value, wr.heap[w1.heap.size]? = some (.cells cs 113) ∧ cs.size = 12 ∧ ∀ x, x < 12 → cs[x]? = some (.bool (goneB (ds.take k) x)))) (fun i _ => ds.length - (intOf i).toNat)
    case atStart => exact ⟨0, by omega, rfl, Lib.hid (Bal (Below.refl _ _) _), Lib.hid (by simp), G0⟩
    case round =>
     clear G0
     obtain ⟨k, hk, rfl, N2, ND, G⟩ := hrel
     have SS := Lib.hid (blk_next N2.out SB.out)
     have XX := Lib.hid (blk_next N2.out X1.out)
     have x0 : wr.cell? ⟨w.heap.size + 1, 0, none⟩ = some (.int .i64 0) := blk_cell XX.out 0 _ rfl
     have x1 : wr.cell? ⟨w.heap.size + 1, 1, none⟩ = some (.int .i64 0) := blk_cell XX.out 1 _ rfl
     have x2 : wr.cell? ⟨w.heap.size + 1, 2, none⟩ = some (.slice none 0 0) := blk_cell XX.out 2 _ rfl
     have f0 : wr.frozen? ⟨w.heap.size + 1, 0, none⟩ = false := blk_frozen XX.out 0
     have f1 : wr.frozen? ⟨w.heap.size + 1, 1, none⟩ = false := blk_frozen XX.out 1
     have f2 : wr.frozen? ⟨w.heap.size + 1, 2, none⟩ = false := blk_frozen XX.out 2
     have hz1 : w.heap.size + 1 < w1.heap.size := blk_lt X1.out
     by_cases hlt : k < ds.length
     ·obtain ⟨d, hdk⟩ := get_some hlt
      obtain ⟨bd, od, rfl, hbd, hcd⟩ := (HD.out.next (Bgo N1.out N2.out)).at_ hdk
      obtain ⟨dp, dl⟩ := inB_out IN.out hdk
      obtain ⟨x, rfl⟩ := Int.eq_ofNat_of_zero_le dp
      have hx : x < 12 := by omega
      have HDK := Lib.hid hdk
      obtain ⟨cs, gb, gs, gc⟩ := G.out
      have c0 : wr.cell? ⟨w1.heap.size, x, none⟩ = some (.bool (goneB (ds.take k) x)) := blk_cell gb x _ (gc x hx)
      have fz : wr.frozen? ⟨w1.heap.size, x, none⟩ = false := blk_frozen gb x
      have GB := Lib.hid gb
      have GC := Lib.hid gc
      clear hdk gb gc G
      cases hg : goneB (ds.take k) x
      ·rw [hg] at c0
       have HG := Lib.hid hg
       clear hg
       go_wp2_with fail
       refine ⟨⟨k + 1, by omega, by go_num, Lib.hid ?_, Lib.hid ?_, Lib.hid ⟨_, blk_set GB.out x (.bool true), by simpa using gs, ?_⟩⟩, by simp [intOf]; omega⟩
       ·exact N2.out.setCell (Nat.le_refl _) _
       ·refine nodup_snoc HDK.out ND.out (fun hm => ?_)
        rw [goneB_mem.2 hm] at HG
        exact absurd HG.out (by decide)
       ·intro y hy
        rw [goneB_snoc HDK.out, Array.getElem?_setIfInBounds]
        by_cases e : x = y
        ·subst e; rw [if_pos rfl, if_pos (by omega)]; simp
        ·rw [if_neg e, GC.out y hy]
         have : (((x : Nat) : Int) == (y : Int)) = false := by rw [beq_eq_false_iff_ne]; omega
         rw [this, Bool.or_false]
      ·rw [hg] at c0
       have FE : Hid (loseE D M m ds = 14) := Lib.hid (by rw [F1.out, if_neg (dup_not HDK.out (goneB_mem.1 hg))])
       clear hg
       go_wp2_with fail
       have Z := blk_set3 XX.out (.int .i64 0) (.int .i64 0) (.slice none 0 0)
       have e0 := blk_cell Z 0 _ rfl
       have e1 := blk_cell Z 1 _ rfl
       have e2 := blk_cell Z 2 _ rfl
       rw [loseS_err FE.out (by decide), FE.out]
       refine bodyPost_ret (v := .tuple #[Sv 0 0 (.slice none 0 0), .int .i64 14]) (by simp [results, Try.results60, go_sem, e0, e1, e2]) rfl (SEPost.none_ ?_)
       exact Bset3 (Bgo N1.out N2.out) (by omega) _ _ _
     ·obtain rfl : k = ds.length := by omega
      have ND2 : Hid ds.Nodup := Lib.hid (by have := ND.out; rwa [List.take_of_length_le (Nat.le_refl _)] at this)
      have F2 : Hid (loseE D M m ds = if szL (keepL m (goneB ds)) = 0 then 32 else 0) := Lib.hid (by rw [F1.out, if_pos ND2.out])
      obtain ⟨cs, gb, gs, gc⟩ := G.out
      rw [List.take_of_length_le (Nat.le_refl _)] at gc
      have s0 : wr.cell? ⟨w.heap.size, 0, none⟩ = some (.int .i64 D) := blk_cell SS.out 0 _ rfl
      have s1 : wr.cell? ⟨w.heap.size, 1, none⟩ = some (.int .i64 M) := blk_cell SS.out 1 _ rfl
      have s2 : wr.cell? ⟨w.heap.size, 2, none⟩ = some (.slice A m.length c) := blk_cell SS.out 2 _ rfl
      have NN := Lib.hid (Bgo N1.out N2.out)
      have LE : Hid (∀ l ∈ m, l.length ≤ 100) := Lib.hid (fun l hl => by have h := OK.out.each l hl; have := OK.out.s64; omega)
      have WC := Lib.hid (without_calls D M A c B 78 (.pointer (some ⟨w1.heap.size, 0, none⟩)) (goneB ds) m wr hn hc (by omega) (HS.out.next NN.out) LE.out call_lose1 (fun W hW k hk => lose1_calls k w1.heap.size _ W (by omega) (blk_cell (blk_next hW gb) k _ (gc k (by omega)))))
      clear G gb gc F1 ND hlt hk
      go_wp2_with fail
      refine WC.out.mono ?_
      rintro e w2 ⟨v, rfl, ⟨us, ho⟩, hb2⟩
      obtain ⟨Av, cv, rfl, hv1, hv2, _⟩ := own_form ho.top
      have KL : Hid ((keepL m (goneB ds)).length = m.length) := Lib.hid (keepL_len _ _)
      have X2 := Lib.hid (blk_next hb2 XX.out)
      have N3 := Lib.hid (Bgo NN.out hb2)
      have O2 := Lib.hid (ho.mono (B' := w.heap.size) NN.out.size)
      rw [KL.out] at hv1 O2
      have LC := Lib.hid (fun W (hW : Below w2.heap.size w2 W) => lost_calls D M Av cv w.heap.size (keepL m (goneB ds)) W (by rw [KL.out]; exact hv1) hv2 ((O2.out.next hW).rma))
      rw [KL.out] at LC
      simp only [KL.out]
      clear ho hb2 x0 x1 x2 f0 f1 f2 s0 s1 s2
      go_wp2_with fail
      have C0 : Hid ((w2.alloc (.cells #[.int .i64 D, .int .i64 M, .slice Av m.length cv] 54)).heap[w2.heap.size]? = some (.cells #[.int .i64 D, .int .i64 M, .slice Av m.length cv] 54)) := Lib.hid (blk_new w2 _)
      have B4 : Hid (Below w2.heap.size w2 (w2.alloc (.cells #[.int .i64 D, .int .i64 M, .slice Av m.length cv] 54))) := Lib.hid (Bal (Below.refl _ _) _)
      generalize w2.alloc (.cells #[.int .i64 D, .int .i64 M, .slice Av m.length cv] 54) = W2 at *
      have X4 := Lib.hid (blk_next B4.out X2.out)
      have N4 := Lib.hid (Bgo N3.out B4.out)
      have O4 := Lib.hid (O2.out.next B4.out)
      have LC4 := Lib.hid (fun W (hW : Below W2.heap.size W2 W) => LC.out W (Bgo B4.out hW))
      have LA : Hid (lostN (keepL m (goneB ds)) = m.length ↔ szL (keepL m (goneB ds)) = 0) := Lib.hid (by have := lost_all (m := keepL m (goneB ds)); rw [KL.out] at this; exact this)
      obtain ⟨z, hz⟩ : ∃ z, lostN (keepL m (goneB ds)) = z := ⟨_, rfl⟩
      rw [hz] at LC4 LA
      clear hz LC
      have c0 : W2.cell? ⟨w2.heap.size, 0, none⟩ = some (.int .i64 D) := blk_cell C0.out 0 _ rfl
      have c1 : W2.cell? ⟨w2.heap.size, 1, none⟩ = some (.int .i64 M) := blk_cell C0.out 1 _ rfl
      have c2 : W2.cell? ⟨w2.heap.size, 2, none⟩ = some (.slice Av m.length cv) := blk_cell C0.out 2 _ rfl
      go_region_held3 (fun W => W.cell? ⟨w2.heap.size, 0, none⟩ = some (.int .i64 D) ∧ W.cell? ⟨w2.heap.size, 1, none⟩ = some (.int .i64 M) ∧ W.cell? ⟨w2.heap.size, 2, none⟩ = some (.slice Av m.length cv)) (first | (exact ⟨blk_cell C5.out 0 _ rfl, blk_cell C5.out 1 _ rfl, blk_cell C5.out 2 _ rfl⟩) | (exact ⟨blk_cell C0.out 0 _ rfl, blk_cell C0.out 1 _ rfl, blk_cell C0.out 2 _ rfl⟩))
       ((go_at_call 75; refine (LC4.out _ ?_).mono ?_; (first | exact Below.refl _ _ | exact (Below.refl _ _).drew); rintro e w5 ⟨rfl, hb5⟩; have B5 : Hid (Below W2.heap.size W2 w5) := Lib.hid (by first | exact hb5 | exact (Below.refl _ _).drew.trans hb5); have C5 := Lib.hid (blk_next B5.out C0.out); clear hb5))
      have X5 := Lib.hid (blk_next B5.out X4.out)
      have N5 := Lib.hid (Bgo N4.out B5.out)
      have O5 := Lib.hid (O4.out.next B5.out)
      clear c0 c1 c2 X4 N4 O4 X2 N3 O2
      have c0 : w5.cell? ⟨w2.heap.size, 0, none⟩ = some (.int .i64 D) := blk_cell C5.out 0 _ rfl
      have c1 : w5.cell? ⟨w2.heap.size, 1, none⟩ = some (.int .i64 M) := blk_cell C5.out 1 _ rfl
      have c2 : w5.cell? ⟨w2.heap.size, 2, none⟩ = some (.slice Av m.length cv) := blk_cell C5.out 2 _ rfl
      have x0 : w5.cell? ⟨w.heap.size + 1, 0, none⟩ = some (.int .i64 0) := blk_cell X5.out 0 _ rfl
      have x1 : w5.cell? ⟨w.heap.size + 1, 1, none⟩ = some (.int .i64 0) := blk_cell X5.out 1 _ rfl
      have x2 : w5.cell? ⟨w.heap.size + 1, 2, none⟩ = some (.slice none 0 0) := blk_cell X5.out 2 _ rfl
      have f0 : w5.frozen? ⟨w.heap.size + 1, 0, none⟩ = false := blk_frozen X5.out 0
      have f1 : w5.frozen? ⟨w.heap.size + 1, 1, none⟩ = false := blk_frozen X5.out 1
      have f2 : w5.frozen? ⟨w.heap.size + 1, 2, none⟩ = false := blk_frozen X5.out 2
      by_cases hzm : z = m.length
      ·have FE : Hid (loseE D M m ds = 32) := Lib.hid (by rw [F2.out, if_pos (LA.out.1 hzm)])
       have q : ((z : Int) == (m.length : Int)) = true := by rw [hzm]; simp
       clear hzm
       go_wp2_with fail
       have Z := blk_set3 X5.out (.int .i64 0) (.int .i64 0) (.slice none 0 0)
       have e0 := blk_cell Z 0 _ rfl
       have e1 := blk_cell Z 1 _ rfl
       have e2 := blk_cell Z 2 _ rfl
       rw [loseS_err FE.out (by decide), FE.out]
       refine bodyPost_ret (v := .tuple #[Sv 0 0 (.slice none 0 0), .int .i64 32]) (by simp [results, Try.results60, go_sem, e0, e1, e2]) rfl (SEPost.none_ ?_)
       exact Bset3 N5.out (by omega) _ _ _
      ·have FE : Hid (loseE D M m ds = 0) := Lib.hid (by rw [F2.out, if_neg (fun h => hzm (LA.out.2 h))])
       have q : ((z : Int) == (m.length : Int)) = false := by rw [beq_eq_false_iff_ne]; omega
       clear hzm
       go_wp2_with fail
       have Z := blk_set3 X5.out (.int .i64 D) (.int .i64 M) (.slice Av m.length cv)
       have e0 := blk_cell Z 0 _ rfl
       have e1 := blk_cell Z 1 _ rfl
       have e2 := blk_cell Z 2 _ rfl
       rw [show loseS D M m ds = (D, M, keepL m (goneB ds)) by unfold loseS; rw [FE.out, if_pos rfl], FE.out]
       refine bodyPost_ret (v := .tuple #[Sv D M (.slice Av m.length cv), .int .i64 0]) (by simp [results, Try.results60, go_sem, e0, e1, e2]) rfl ⟨_, rfl, ⟨us, ?_⟩, ?_⟩
       ·exact O5.out.set3_ X5.out _ _ _
       ·exact Bset3 N5.out (by omega) _ _ _
 ·have FE : Hid (loseE D M m ds = chkE D M m) := Lib.hid (by unfold loseE; rw [if_pos ck])
  have q : (chkE D M m != 0) = true := by rw [bne_iff_ne]; exact ck
  rw [loseS_err FE.out ck, FE.out]
  generalize chkE D M m = er at *
  clear ck FE
  go_enter Try.func60, Try.ntmps60
  go_wp2_with fail
  refine (CC.out _ (HS.out.next (Bal (Bal (Below.refl _ _) _) _))).mono ?_
  rintro e w1 ⟨rfl, hb1⟩
  have N1 : Hid (Below w.heap.size w w1) := Lib.hid (Bgo (Bal (Bal (Below.refl _ _) _) _) hb1)
  have X1 : Hid (w1.heap[w.heap.size + 1]? = some (.cells #[.int .i64 0, .int .i64 0, .slice none 0 0] 54)) := Lib.hid (blk_next hb1 (blk_at _ (by simp)))
  clear hb1
  have x0 : w1.cell? ⟨w.heap.size + 1, 0, none⟩ = some (.int .i64 0) := blk_cell X1.out 0 _ rfl
  have x1 : w1.cell? ⟨w.heap.size + 1, 1, none⟩ = some (.int .i64 0) := blk_cell X1.out 1 _ rfl
  have x2 : w1.cell? ⟨w.heap.size + 1, 2, none⟩ = some (.slice none 0 0) := blk_cell X1.out 2 _ rfl
  have f0 : w1.frozen? ⟨w.heap.size + 1, 0, none⟩ = false := blk_frozen X1.out 0
  have f1 : w1.frozen? ⟨w.heap.size + 1, 1, none⟩ = false := blk_frozen X1.out 1
  have f2 : w1.frozen? ⟨w.heap.size + 1, 2, none⟩ = false := blk_frozen X1.out 2
  go_wp2_with fail
  have Z := blk_set3 X1.out (.int .i64 0) (.int .i64 0) (.slice none 0 0)
  have e0 := blk_cell Z 0 _ rfl
  have e1 := blk_cell Z 1 _ rfl
  have e2 := blk_cell Z 2 _ rfl
  refine bodyPost_ret (v := .tuple #[Sv 0 0 (.slice none 0 0), .int .i64 er]) (by simp [results, Try.results60, go_sem, e0, e1, e2]) rfl (SEPost.none_ ?_)
  exact Bset3 N1.out (by omega) _ _ _
end Go.Proofs.Ytapehckcmmompaa
namespace Go.Proofs.Ytapehckcmmompaa
open Go.ChangeShapes Go.WideShapes Go.ChangeAt Go.RowKit Gf
set_option linter.unusedVariables false
set_option maxRecDepth 100000
structure Fam (B : Nat) (w : World) (us : List Value) (ls : List (List Nat)) : Prop where
 len : us.length = ls.length
 row : ∀ (i : Nat) (u : Value) (l : List Nat), us[i]? = some u → ls[i]? = some l → OB B w u l
 byt : ∀ l ∈ ls, Byt l
 apart : ∀ (i j : Nat) (u u' : Value), us[i]? = some u → us[j]? = some u' → i ≠ j → u.ownBlock = none ∨ u.ownBlock ≠ u'.ownBlock
theorem OMx.fam {B : Nat} {w : World} {v : Value} {us : List Value} {m : List (List Nat)} (h : OMx B w v us m) : Fam B w us m := ⟨h.len, h.row, h.byt, h.apart⟩
theorem Fam.omx {B : Nat} {w : World} {v : Value} {us : List Value} {m : List (List Nat)} (h : Fam B w us m) (ht : w.ownsRow B 26 1 v m.length us) : OMx B w v us m := ⟨ht, h.row, h.byt, h.apart⟩
theorem Fam.next {B : Nat} {w w' : World} {us : List Value} {ls : List (List Nat)} (hb : Below w.heap.size w w') (h : Fam B w us ls) : Fam B w' us ls :=
 ⟨h.len, fun i u l hu hl => own_next hb (h.row i u l hu hl), h.byt, h.apart⟩
theorem Fam.nil (B : Nat) (w : World) : Fam B w [] [] := ⟨rfl, fun i u l hu => by simp at hu, fun l hl => by simp at hl, fun i j u u' hu => by simp at hu⟩
theorem Fam.form {B : Nat} {w : World} {us : List Value} {ls : List (List Nat)} (h : Fam B w us ls) {i : Nat} {l : List Nat} (hl : ls[i]? = some l) (h0 : 0 < l.length) :
  ∃ g cap, us[i]? = some (.slice (some ⟨g, 0, none⟩) l.length cap) ∧ B ≤ g ∧ g < w.heap.size ∧ l.length ≤ cap ∧ cap ≤ 9223372036854775807 ∧ w.ownsRow B 5 1 (.slice (some ⟨g, 0, none⟩) l.length cap) l.length (bv l) ∧ Byt l := by
 obtain ⟨u, hu⟩ := get_some (show i < us.length by rw [h.len]; exact get_lt hl)
 have ho := h.row i u l hu hl
 rcases ho.2 with ⟨_, h2⟩ | ⟨g, cap, cur, e, hb, hg, hc, hm, _⟩
 ·omega
 ·rw [e] at hu ho
  exact ⟨g, cap, hu, hb, blk_lt hg, hc, by simpa [maxLen] using hm, ho, h.byt l (List.mem_of_getElem? hl)⟩
theorem Fam.write {B : Nat} {w w' : World} {us : List Value} {ls : List (List Nat)} (h : Fam B w us ls) {i g n cap : Nat} {l' : List Nat} (hu : us[i]? = some (.slice (some ⟨g, 0, none⟩) n cap)) (hg : w.grownBy w' (some g))
  (ho : w'.ownsRow B 5 1 (.slice (some ⟨g, 0, none⟩) n cap) n (bv l')) (hn : l'.length = n) (hb : Byt l') : Fam B w' us (ls.set i l') := by
 subst hn
 refine ⟨by simpa using h.len, fun j u l hj hl => ?_, fun l hl => ?_, h.apart⟩
 ·rcases set_get hl with ⟨rfl, rfl, _⟩ | ⟨h1, h2⟩
  ·rw [hu] at hj; cases hj; exact ho
  ·refine (h.row j u l hj h2).kept hg ?_
   rcases h.apart j i u _ hj hu h1 with h3 | h3
   ·exact .inl h3
   ·exact .inr h3
 ·rcases List.mem_or_eq_of_mem_set hl with h1 | rfl
  ·exact h.byt l h1
  ·exact hb
theorem Fam.ne_ {B : Nat} {w : World} {us : List Value} {ls : List (List Nat)} (h : Fam B w us ls) {i j g g' n n' cap cap' : Nat} (hi : us[i]? = some (.slice (some ⟨g, 0, none⟩) n cap)) (hj : us[j]? = some (.slice (some ⟨g', 0, none⟩) n' cap')) (hij : i ≠ j) : g ≠ g' := fun e => by
 rcases h.apart i j _ _ hi hj hij with h1 | h1
 ·simp [Value.ownBlock] at h1
 ·exact h1 (by rw [e]; rfl)
structure KU (B : Nat) (w w' : World) : Prop where
 bel : Below B w w'
 oth : ∀ (g : Nat) (cs : Array Value) (t : TypeId) (fz : Nat × Nat), w.heap[g]? = some (.cells cs t fz) → t ≠ 5 → w'.heap[g]? = some (.cells cs t fz)
theorem KU.refl (B : Nat) (w : World) : KU B w w := ⟨Below.refl _ _, fun _ _ _ _ h _ => h⟩
theorem KU.trans {B : Nat} {a b c : World} (h : KU B a b) (k : KU B b c) : KU B a c := ⟨h.bel.trans k.bel, fun g cs t fz hg ht => k.oth g cs t fz (h.oth g cs t fz hg ht) ht⟩
theorem KU.drew {B : Nat} {a b : World} (h : KU B a b) : KU B a b.drew := ⟨h.bel.drew, h.oth⟩
theorem KU.grown {B g : Nat} {w w' : World} {n cap : Nat} {xs : List Value} (hg : w.grownBy w' (some g)) (ho : w.ownsRow B 5 1 (.slice (some ⟨g, 0, none⟩) n cap) n xs) (hs : B ≤ w.heap.size) : KU B w w' :=
 ⟨(Below.refl B w).grown hg hs (fun k hk => by cases hk; exact (ho.lt g rfl).1), fun b cs t fz hb ht => gblk hg hb (fun e => own_ne ho hb (fun e' => ht e'.symm) e.symm)⟩
theorem KU.own {B : Nat} {w w' : World} (h : KU B w w') {base : Nat} {e : TypeId} {size n : Nat} {v : Value} {xs : List Value} (ho : w.ownsRow base e size v n xs) (he : e ≠ 5) : w'.ownsRow base e size v n xs := by
 obtain ⟨h1, h2 | ⟨g, cap, cur, e1, e2, e3, e4⟩⟩ := ho
 ·exact ⟨h1, .inl h2⟩
 ·exact ⟨h1, .inr ⟨g, cap, cur, e1, e2, h.oth g cur e (0, 0) e3 he, e4⟩⟩
def mixK (h : Nat → Nat → Nat) (l : List Nat) (k : Nat) : List Nat := (List.range l.length).map fun i => if i < k then h i (l.getD i 0) else l.getD i 0
theorem mixK_zero (h : Nat → Nat → Nat) (l : List Nat) : mixK h l 0 = l := by
 apply List.ext_getElem?
 intro i
 simp only [mixK, List.getElem?_map]
 by_cases hi : i < l.length
 ·rw [List.getElem?_range hi, List.getElem?_eq_getElem hi]; simp [List.getD_eq_getElem?_getD, hi]
 ·rw [List.getElem?_eq_none (by simpa using hi), List.getElem?_eq_none (by simpa using hi)]; rfl
theorem mixK_at {h : Nat → Nat → Nat} {l : List Nat} {k x : Nat} (e : l[k]? = some x) : (mixK h l k)[k]? = some x := by
 simp only [mixK, List.getElem?_map, List.getElem?_range (get_lt e), Option.map_some]
 simp [List.getD_eq_getElem?_getD, e]
theorem mixK_succ {h : Nat → Nat → Nat} {l : List Nat} {k x : Nat} (e : l[k]? = some x) : mixK h l (k + 1) = (mixK h l k).set k (h k x) := by
 apply List.ext_getElem?
 intro i
 have hl := get_lt e
 rw [List.getElem?_set]
 by_cases hi : i < l.length
 ·simp only [mixK, List.getElem?_map, List.getElem?_range hi, Option.map_some]
  by_cases ek : k = i
  ·subst ek
   have e1 : l.getD k 0 = x := by rw [List.getD_eq_getElem?_getD, e]; rfl
   rw [if_pos (by omega), e1]
   simp [hl]
  ·rw [if_neg ek]
   congr 1
   by_cases hk : i < k
   ·rw [if_pos (by omega), if_pos hk]
   ·rw [if_neg (by omega), if_neg hk]
 ·rw [List.getElem?_eq_none (by simp [mixK]; omega)]
  by_cases ek : k = i
  ·omega
  ·rw [if_neg ek, List.getElem?_eq_none (by simp [mixK]; omega)]
def scaleR (f : Nat) (l : List Nat) : List Nat := l.map (gm f)
theorem scaleR_len (f : Nat) (l : List Nat) : (scaleR f l).length = l.length := by simp [scaleR]
theorem mixK_scale (f : Nat) (l : List Nat) : mixK (fun _ x => gm f x) l l.length = scaleR f l := by
 apply List.ext_getElem?
 intro i
 simp only [mixK, scaleR, List.getElem?_map]
 by_cases hi : i < l.length
 ·rw [List.getElem?_range hi, List.getElem?_eq_getElem hi]; simp [List.getD_eq_getElem?_getD, hi]
 ·rw [List.getElem?_eq_none (by simpa using hi), List.getElem?_eq_none (by simpa using hi)]; rfl
theorem scaleR_byt {f : Nat} (l : List Nat) (hf : f < 256) : Byt (scaleR f l) := fun x hx => by
 simp only [scaleR, List.mem_map] at hx
 obtain ⟨y, _, rfl⟩ := hx
 exact gm_lt hf
def pivF (M : List (List Nat)) (p : Nat) : Nat := gi ((M.getD p []).getD p 0)
def elim (M L : List (List Nat)) (p r : Nat) : List (List Nat) := (List.range L.length).map fun i =>
 if i = p then scaleR (pivF M p) (L.getD p []) else if i < r then addR (L.getD i []) (scaleR (pivF M p) (L.getD p [])) ((M.getD i []).getD p 0) else L.getD i []
def gjTo (M R : List (List Nat)) : Nat → List (List Nat) × List (List Nat)
 | 0 => (M, R)
 | p + 1 => (elim (gjTo M R p).1 (gjTo M R p).1 p M.length, elim (gjTo M R p).1 (gjTo M R p).2 p M.length)
theorem elim_len (M L : List (List Nat)) (p r : Nat) : (elim M L p r).length = L.length := by simp [elim]
theorem elim_at {M L : List (List Nat)} {p r i : Nat} (hi : i < L.length) : (elim M L p r)[i]? = some (if i = p then scaleR (pivF M p) (L.getD p []) else if i < r then addR (L.getD i []) (scaleR (pivF M p) (L.getD p [])) ((M.getD i []).getD p 0) else L.getD i []) := by
 simp only [elim, List.getElem?_map, List.getElem?_range hi, Option.map_some]
theorem getD_get {m : List (List Nat)} {i : Nat} (hi : i < m.length) : m[i]? = some (m.getD i []) := by
 obtain ⟨l, hl⟩ := get_some hi
 rw [hl, getD_of hl]
theorem elim_zero {M L : List (List Nat)} {p : Nat} (hp : p < L.length) : elim M L p 0 = L.set p (scaleR (pivF M p) (L.getD p [])) := by
 apply List.ext_getElem?
 intro i
 rw [List.getElem?_set]
 by_cases hi : i < L.length
 ·rw [elim_at hi]
  by_cases e : p = i
  ·subst e; rw [if_pos rfl, if_pos rfl, if_pos hp]
  ·rw [if_neg e, if_neg (fun e' => e e'.symm), if_neg (by omega), getD_get hi]
 ·rw [List.getElem?_eq_none (by rw [elim_len]; omega)]
  by_cases e : p = i
  ·omega
  ·rw [if_neg e, List.getElem?_eq_none (by omega)]
theorem elim_skip {M L : List (List Nat)} {p : Nat} : elim M L p (p + 1) = elim M L p p := by
 unfold elim
 apply List.map_congr_left
 intro i _
 by_cases e : i = p
 ·rw [if_pos e, if_pos e]
 ·rw [if_neg e, if_neg e]
  by_cases h : i < p
  ·rw [if_pos (by omega), if_pos h]
  ·rw [if_neg (by omega), if_neg h]
theorem elim_step {M L : List (List Nat)} {p r : Nat} (hr : r < L.length) (hp : r ≠ p) : elim M L p (r + 1) = (elim M L p r).set r (addR (L.getD r []) (scaleR (pivF M p) (L.getD p [])) ((M.getD r []).getD p 0)) := by
 apply List.ext_getElem?
 intro i
 rw [List.getElem?_set]
 by_cases hi : i < L.length
 ·rw [elim_at hi, elim_at hi]
  by_cases e : r = i
  ·subst e; rw [if_pos rfl, if_neg hp, if_pos (by omega), if_pos (by rw [elim_len]; exact hr)]
  ·rw [if_neg e]
   by_cases e' : i = p
   ·rw [if_pos e', if_pos e']
   ·rw [if_neg e', if_neg e']
    by_cases h : i < r
    ·rw [if_pos (by omega), if_pos h]
    ·rw [if_neg (by omega), if_neg h]
 ·rw [List.getElem?_eq_none (by rw [elim_len]; omega)]
  by_cases e : r = i
  ·omega
  ·rw [if_neg e, List.getElem?_eq_none (by rw [elim_len]; omega)]
theorem elim_rows {M L : List (List Nat)} {p r n : Nat} (h : ∀ l ∈ L, l.length = n) (hp : p < L.length) : ∀ l ∈ elim M L p r, l.length = n := fun l hl => by
 have g : ∀ i, i < L.length → (L.getD i []).length = n := fun i hi => by
  obtain ⟨x, hx⟩ := get_some hi
  rw [getD_of hx]; exact h x (List.mem_of_getElem? hx)
 simp only [elim, List.mem_map, List.mem_range] at hl
 obtain ⟨i, hi, rfl⟩ := hl
 split
 ·rw [scaleR_len]; exact g p hp
 ·split
  ·rw [addR_len]; exact g i hi
  ·exact g i hi
theorem gjTo_len (M R : List (List Nat)) (p : Nat) : (gjTo M R p).1.length = M.length ∧ (gjTo M R p).2.length = R.length := by
 induction p with
 | zero => exact ⟨rfl, rfl⟩
 | succ p ih => exact ⟨by rw [gjTo, elim_len, ih.1], by rw [gjTo, elim_len, ih.2]⟩
theorem gjTo_rows {M R : List (List Nat)} {n q : Nat} (hM : ∀ l ∈ M, l.length = n) (hR : ∀ l ∈ R, l.length = q) (hl : R.length = M.length) : ∀ p, p ≤ M.length → (∀ l ∈ (gjTo M R p).1, l.length = n) ∧ (∀ l ∈ (gjTo M R p).2, l.length = q)
 | 0, _ => ⟨hM, hR⟩
 | p + 1, h => by
  have ih := gjTo_rows hM hR hl p (by omega)
  exact ⟨elim_rows ih.1 (by rw [(gjTo_len M R p).1]; omega), elim_rows ih.2 (by rw [(gjTo_len M R p).2]; omega)⟩
theorem set_left {α : Type} {a b : List α} {i : Nat} (h : i < a.length) (x : α) : (a ++ b).set i x = a.set i x ++ b := by rw [List.set_append_left _ _ h]
theorem set_right {α : Type} (a b : List α) (i : Nat) (x : α) : (a ++ b).set (a.length + i) x = a ++ b.set i x := by rw [List.set_append_right _ _ (by omega)]; simp
theorem get_left {α : Type} {a b : List α} {i : Nat} (h : i < a.length) : (a ++ b)[i]? = a[i]? := List.getElem?_append_left h
theorem get_right {α : Type} (a b : List α) (i : Nat) : (a ++ b)[a.length + i]? = b[i]? := by rw [List.getElem?_append_right (by omega)]; simp
end Go.Proofs.Ytapehckcmmompaa
