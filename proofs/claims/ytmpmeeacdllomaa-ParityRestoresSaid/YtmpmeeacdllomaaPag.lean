/- Contracts of layer 45: a stripe without some of its blocks. -/
import Derived.Test.YtmpmeeacdllomaaPah
import Derived.Deep.DeepCutAuto
namespace Go.Proofs.Ytmpmeeacdllomaa
open Go.ChangeShapes Go.WideShapes Go.ChangeAt Go.RowKit Gf
set_option linter.unusedVariables false
attribute [local go_sem ↓] Go.wp_at_zero Go.wp_at_succ

theorem set_get {α : Type} {us : List α} {k i : Nat} {u x : α} (h : (us.set k u)[i]? = some x) : (i = k ∧ x = u ∧ k < us.length) ∨ (i ≠ k ∧ us[i]? = some x) := by
  rw [List.getElem?_set] at h
  by_cases e : k = i
  · rw [if_pos e] at h
    subst e
    by_cases hl : k < us.length
    · rw [if_pos hl] at h; exact .inl ⟨rfl, by simpa using h.symm, hl⟩
    · rw [if_neg hl] at h; cases h
  · rw [if_neg e] at h; exact .inr ⟨fun e' => e e'.symm, h⟩
/- another row in the place of one -/
theorem OMx.setRow {B : Nat} {W0 W : World} {u : Value} {us : List Value} {m : List (List Nat)} {l : List Nat} {hb n cap k : Nat} (h : OMx B W0 (.slice (some ⟨hb, 0, none⟩) n cap) us m) (hn : m.length = n) (hbel : Below W0.heap.size W0 W) (hu : OB W0.heap.size W u l) (hl : Byt l) (hB : B ≤ W0.heap.size) :
    OMx B (W.setCell ⟨hb, k, none⟩ u) (.slice (some ⟨hb, 0, none⟩) n cap) (us.set k u) (m.set k l) := by
  subst hn
  have ht := own_next hbel h.top
  have st := ht.stored k u
  have keep : ∀ {base : Nat} {x : Value} {y : List Nat}, OB base W x y → OB base (W.setCell ⟨hb, k, none⟩ u) x y := fun hx => hx.kept st.2 (own_own ht hx (by decide))
  have old : ∀ {i : Nat} {x : Value}, us[i]? = some x → ∀ g, x.ownBlock = some g → g < W0.heap.size := fun {i x} h1 g hg' => by
    obtain ⟨y, hy⟩ := get_some (show i < m.length by have := get_lt h1; rw [h.len] at this; exact this)
    exact ((h.row i x y h1 hy).lt g hg').2
  have new : ∀ g, u.ownBlock = some g → W0.heap.size ≤ g := fun g hg' => (hu.lt g hg').1
  refine ⟨by simpa using st.1, fun i x y hx hy => ?_, fun y hy => ?_, fun i j x x' hx hx' hij => ?_⟩
  · rcases set_get hx with ⟨rfl, rfl, _⟩ | ⟨h1, h2⟩
    · rcases set_get hy with ⟨_, rfl, _⟩ | ⟨h3, _⟩
      · exact own_mono (keep hu) hB
      · exact absurd rfl h3
    · rcases set_get hy with ⟨h3, _⟩ | ⟨_, h4⟩
      · exact absurd h3 h1
      · exact keep (own_next hbel (h.row i x y h2 h4))
  · rcases List.mem_or_eq_of_mem_set hy with h1 | rfl
    · exact h.byt y h1
    · exact hl
  · rcases set_get hx with ⟨e1, rfl, _⟩ | ⟨h1, h2⟩
    · rcases set_get hx' with ⟨e2, _, _⟩ | ⟨h3, h4⟩
      · omega
      · cases e : x.ownBlock with
        | none => exact .inl rfl
        | some g =>
          refine .inr fun e' => ?_
          have := old h4 g e'.symm
          have := new g e
          omega
    · rcases set_get hx' with ⟨e2, rfl, _⟩ | ⟨h3, h4⟩
      · cases e : x.ownBlock with
        | none => exact .inl rfl
        | some g =>
          refine .inr fun e' => ?_
          have := old h2 g e
          have := new g e'.symm
          omega
      · exact h.apart i j x x' h2 h4 hij
theorem make_rows (W : World) (n : Nat) (h : n ≤ 1000000) : (Instr.makeSlice 29 (.int .i64 (n : Int)) (.int .i64 (n : Int))).run Try.prog W = .ok (.slice (some ⟨W.heap.size, 0, none⟩) n n) (W.alloc (.cells (madeCells #[.slice none 0 0] n) 57)) :=
  run_make_row' 29 57 (.slice none 0 0) 24 Try.underlying29 sl_info rfl .i64 .i64 n (by omega) (by omega) W
theorem nil_rows {B : Nat} (W : World) (n : Nat) (h : n ≤ 9223372036854775807) (hB : B ≤ W.heap.size) : OMx B (W.alloc (.cells (madeCells #[.slice none 0 0] n) 57)) (.slice (some ⟨W.heap.size, 0, none⟩) n n) (List.replicate n (.slice none 0 0)) (List.replicate n []) := by
  have := World.ownsRow_lit (base := B) (size := 1) (e := 57) W (madeCells #[.slice none 0 0] n) n hB (by simp [maxLen]; omega) (by rw [size_madeCells]; omega)
  rw [toList_madeCells_one] at this
  refine ⟨by simpa using this, fun i u l hu hl => ?_, fun l hl => ?_, fun i j u u' hu hu' hij => ?_⟩
  · have e1 := List.eq_of_mem_replicate (List.mem_of_getElem? hu)
    have e2 := List.eq_of_mem_replicate (List.mem_of_getElem? hl)
    subst e1 e2
    exact World.ownsRow_nil _ _ _ _
  · have e2 := List.eq_of_mem_replicate hl
    subst e2; exact Byt.nil
  · have e1 := List.eq_of_mem_replicate (List.mem_of_getElem? hu)
    subst e1
    exact .inl rfl
theorem nil_rows_at {B hb : Nat} (W : World) (n : Nat) (h : n ≤ 9223372036854775807) (hB : B ≤ W.heap.size) (he : hb = W.heap.size) : OMx B (W.alloc (.cells (madeCells #[.slice none 0 0] n) 57)) (.slice (some ⟨hb, 0, none⟩) n n) (List.replicate n (.slice none 0 0)) (List.replicate n []) := by
  rw [he]; exact nil_rows W n h hB
/- the blocks of which p says no, up to k -/
def keepTo (m : List (List Nat)) (p : Nat → Bool) (k : Nat) : List (List Nat) := (List.range m.length).map fun i => if i < k ∧ p i = false then m.getD i [] else []
def keepL (m : List (List Nat)) (p : Nat → Bool) : List (List Nat) := (List.range m.length).map fun i => if p i then [] else m.getD i []
theorem keepTo_len (m : List (List Nat)) (p : Nat → Bool) (k : Nat) : (keepTo m p k).length = m.length := by simp [keepTo]
theorem keepL_len (m : List (List Nat)) (p : Nat → Bool) : (keepL m p).length = m.length := by simp [keepL]
theorem keepTo_zero (m : List (List Nat)) (p : Nat → Bool) : keepTo m p 0 = List.replicate m.length [] := by
  unfold keepTo
  rw [List.eq_replicate_iff]
  refine ⟨by simp, fun b hb => ?_⟩
  simp only [List.mem_map] at hb
  obtain ⟨i, _, rfl⟩ := hb
  rw [if_neg (by omega)]
theorem keepTo_full (m : List (List Nat)) (p : Nat → Bool) : keepTo m p m.length = keepL m p := by
  unfold keepTo keepL
  apply List.map_congr_left
  intro i hi
  have := List.mem_range.1 hi
  cases p i
  · rw [if_pos ⟨this, rfl⟩]; rfl
  · rw [if_neg (by simp)]; rfl
theorem keepTo_skip {m : List (List Nat)} {p : Nat → Bool} {k : Nat} {l : List Nat} (hk : m[k]? = some l) (h : p k = true ∨ l.length = 0) : keepTo m p (k + 1) = keepTo m p k := by
  unfold keepTo
  apply List.map_congr_left
  intro i hi
  by_cases e : i = k
  · subst e
    rw [if_neg (by omega : ¬ (i < i ∧ p i = false))]
    rcases h with h | h
    · rw [if_neg (by rw [h]; simp)]
    · rw [getD_of hk, List.eq_nil_of_length_eq_zero h]; split <;> rfl
  · by_cases hlt : i < k
    · simp only [show i < k + 1 by omega, hlt]
    · simp only [show ¬ i < k + 1 by omega, hlt]
theorem keepTo_put {m : List (List Nat)} {p : Nat → Bool} {k : Nat} {l : List Nat} (hk : m[k]? = some l) (h : p k = false) : keepTo m p (k + 1) = (keepTo m p k).set k l := by
  apply List.ext_getElem?
  intro i
  have hl := get_lt hk
  rw [List.getElem?_set]
  by_cases hi : i < m.length
  · have e1 : (keepTo m p (k + 1))[i]? = some (if i < k + 1 ∧ p i = false then m.getD i [] else []) := by simp only [keepTo, List.getElem?_map, List.getElem?_range hi, Option.map_some]
    have e2 : (keepTo m p k)[i]? = some (if i < k ∧ p i = false then m.getD i [] else []) := by simp only [keepTo, List.getElem?_map, List.getElem?_range hi, Option.map_some]
    rw [e1, e2]
    by_cases e : k = i
    · subst e
      rw [if_pos rfl, if_pos (show k < k + 1 ∧ p k = false from ⟨by omega, h⟩), if_pos (by rw [keepTo_len]; exact hl), getD_of hk]
    · rw [if_neg e]
      by_cases hlt : i < k
      · simp only [show i < k + 1 by omega, hlt]
      · simp only [show ¬ i < k + 1 by omega, hlt]
  · rw [List.getElem?_eq_none (by rw [keepTo_len]; omega)]
    by_cases e : k = i
    · omega
    · rw [if_neg e, List.getElem?_eq_none (by rw [keepTo_len]; omega)]
theorem keepL_at {m : List (List Nat)} {p : Nat → Bool} {k : Nat} {l : List Nat} (hk : m[k]? = some l) : (keepL m p)[k]? = some (if p k then [] else l) := by
  simp only [keepL, List.getElem?_map, List.getElem?_range (get_lt hk), Option.map_some, getD_of hk]
set_option maxHeartbeats 2000000 in
theorem without_calls (D M : Int) (A : Option Addr) (c B fn : Nat) (P : Value) (p : Nat → Bool) (m : List (List Nat)) (w : World) (hn : m.length ≤ c) (hc : c ≤ 9223372036854775807) (hm : m.length ≤ 100) (hs : RMA B w A m) (hlen : ∀ l ∈ m, l.length ≤ 100)
    (hcf : ∀ (args : Array Value) (W : World), Sem.run Try.prog (callFunc fn args) W = .ok (.enter fn args) W)
    (hg : ∀ W : World, Below w.heap.size w W → ∀ k, k < m.length → Calls Try.prog fn #[.int .i64 (k : Int), P] W (fun e w' => e = .returned (.bool (p k)) ∧ W = w')) :
    Calls Try.prog 45 #[Sv D M (.slice A m.length c), .func (.func fn) #[] #[P]] w (SPost w (D, M, keepL m p)) := by
  have HS := Lib.hid hs
  have HLEN := Lib.hid hlen
  have HG := Lib.hid hg
  have mk := fun W => make_rows W m.length (by omega)
  clear hs hlen hg
  go_enter Try.func45, Try.ntmps45
  go_upto_region 1 with fail
  go_cut [5] (fun s5 wx => ∃ cb hb : Nat, s5 = .pointer (some ⟨cb, 0, none⟩) ∧ w.heap.size + 1 < cb ∧ w.heap.size + 1 < hb ∧ Hid (Below w.heap.size w wx) ∧ Hid (wx.heap[w.heap.size]? = some (.cells #[.int .i64 D, .int .i64 M, .slice A m.length c] 31)) ∧ Hid (wx.heap[w.heap.size + 1]? = some (.cells #[.int .i64 0, .int .i64 0, .slice none 0 0] 31)) ∧ Hid (wx.heap[cb]? = some (.cells #[.int .i64 D, .int .i64 M, .slice (some ⟨hb, 0, none⟩) m.length m.length] 31)) ∧ Hid (OMx w.heap.size wx (.slice (some ⟨hb, 0, none⟩) m.length m.length) (List.replicate m.length (.slice none 0 0)) (List.replicate m.length [])))
  case first =>
    go_region
    · go_wp2_with fail
      go_meet
      refine ⟨w.heap.size + 1 + 1 + 1, w.heap.size + 1 + 1, rfl, by omega, by omega, Lib.hid ?_, Lib.hid ?_, Lib.hid ?_, Lib.hid ?_, Lib.hid ?_⟩
      · repeat (first | exact Below.refl _ _ | refine Below.drew ?_ | refine Bal ?_ _)
      · exact blk_alloc (blk_alloc (blk_alloc (blk_new w _) _) _) _
      · exact blk_alloc (blk_alloc (blk_at _ (by simp)) _) _
      · exact blk_at _ (by simp)
      · exact (nil_rows_at _ m.length (by omega) (by simp; omega) (by simp)).next (Bal (Below.refl _ _) _).drew
    · go_wp2_with fail
      go_meet
      refine ⟨w.heap.size + 1 + 1, w.heap.size + 1 + 1 + 1, rfl, by omega, by omega, Lib.hid ?_, Lib.hid ?_, Lib.hid ?_, Lib.hid ?_, Lib.hid ?_⟩
      · repeat (first | exact Below.refl _ _ | refine Below.drew ?_ | refine Bal ?_ _)
      · exact blk_alloc (blk_alloc (blk_alloc (blk_new w _) _) _) _
      · exact blk_alloc (blk_alloc (blk_at _ (by simp)) _) _
      · exact blk_alloc (blk_at _ (by simp)) _
      · exact (nil_rows_at _ m.length (by omega) (by simp; omega) (by simp)).next (Below.refl _ _).drew
  case rest =>
    obtain ⟨cb, hb, rfl, hcb, hhb, N0, SB0, X0, Y0, O0⟩ := hcut
    have s2 : wc.cell? ⟨w.heap.size, 2, none⟩ = some (.slice A m.length c) := blk_cell SB0.out 2 _ rfl
    go_wp2_with fail
    clear s2
    go_loopw [20] (fun i wr => ∃ (k : Nat) (us : List Value), k ≤ m.length ∧ i = .int .i64 k ∧ Hid (Below w.heap.size w wr) ∧ Hid (wr.heap[w.heap.size + 1]? = some (.cells #[.int .i64 0, .int .i64 0, .slice none 0 0] 31)) ∧ Hid (wr.heap[cb]? = some (.cells #[.int .i64 D, .int .i64 M, .slice (some ⟨hb, 0, none⟩) m.length m.length] 31)) ∧ Hid (OMx w.heap.size wr (.slice (some ⟨hb, 0, none⟩) m.length m.length) us (keepTo m p k))) (fun i _ => m.length - (intOf i).toNat)
    case atStart => exact ⟨0, _, by omega, rfl, N0, X0, Y0, by rw [keepTo_zero]; exact O0⟩
    case round =>
      clear N0 SB0 X0 Y0 O0
      obtain ⟨k, us, hk, rfl, N, X, Y, O⟩ := hrel
      by_cases hlt : k < m.length
      · obtain ⟨l, hl⟩ := get_some hlt
        obtain ⟨b, off, Ai, ci, rfl, hb4, h1, h2, h3, h4⟩ := (HS.out.next N.out).at_ hl
        have hln : l.length ≤ 100 := HLEN.out l (List.mem_of_getElem? hl)
        have HB4 := Lib.hid h4
        have HL := Lib.hid hl
        have HC := Lib.hid (fun W (h : Below w.heap.size w W) => HG.out W h k hlt)
        have y2 : wr.cell? ⟨cb, 2, none⟩ = some (.slice (some ⟨hb, 0, none⟩) m.length m.length) := blk_cell Y.out 2 _ rfl
        have hz : cb < wr.heap.size := blk_lt Y.out
        have k1 : (0 : Int) ≤ (k : Int) := by omega
        have k2 : (k : Int) < (m.length : Int) := by omega
        clear hl h4
        cases hp : p k
        · rw [hp] at HC
          have HP := Lib.hid hp
          clear hp
          by_cases h0 : l.length = 0
          · have q : ((l.length : Int) != 0) = false := by rw [h0]; rfl
            have H0 := Lib.hid h0
            clear h0
            go_wp2_with fail
            refine (HC.out _ N.out).mono ?_
            rintro e w1 ⟨rfl, rfl⟩
            go_wp2_with fail
            exact ⟨⟨k + 1, us, by omega, by go_num, N, X, Y, by rw [keepTo_skip HL.out (.inr H0.out)]; exact O⟩, by simp [intOf]; omega⟩
          · have q : ((l.length : Int) != 0) = true := by rw [bne_iff_ne]; omega
            clear h0
            go_wp2_with fail
            refine (HC.out _ N.out).mono ?_
            rintro e w1 ⟨rfl, rfl⟩
            go_wp2_with fail
            obtain ⟨u0, hu0⟩ := get_some (show k < us.length by rw [O.out.len, keepTo_len]; exact hlt)
            have TOP : Hid (wr.ownsRow w.heap.size 57 1 (.slice (some ⟨hb, 0, none⟩) m.length m.length) m.length us) := Lib.hid (by have := O.out.top; rw [keepTo_len] at this; exact this)
            have HU0 := Lib.hid hu0
            have HK : Hid (k < m.length * 1) := Lib.hid (by omega)
            have HNE : Hid (hb ≠ cb) := Lib.hid (fun e => own_ne TOP.out Y.out ne_sl_st (by rw [e]; rfl))
            clear hu0
            go_region_held3 (fun W => W.cell? ⟨cb, 2, none⟩ = some (.slice (some ⟨hb, 0, none⟩) m.length m.length)) (first | (exact blk_cell Y1.out 2 _ rfl) | (exact blk_cell Y.out 2 _ rfl) | (exact blk_cell (blk_set_other Y1.out HNE.out k _) 2 _ rfl))
              ((go_at_call 54; refine (clone_calls Ai ci B l _ (by omega) ?_).mono ?_; (first | exact HB4.out | exact HB4.out.next (Below.refl _ _).drew); rintro e w1 ⟨u, rfl, hu, hb1⟩; obtain ⟨Au, cu, rfl, hu1, hu2, _⟩ := own_form hu; have U1 : Hid (OB wr.heap.size w1 (.slice Au l.length cu) l) := Lib.hid hu; have N1 : Hid (Below wr.heap.size wr w1) := Lib.hid (by first | exact hb1 | exact (Below.refl _ _).drew.trans hb1); have Y1 := Lib.hid (blk_next N1.out Y.out); have c9 : w1.cell? ⟨hb, k, none⟩ = some u0 := ((own_next N1.out TOP.out).cellAt k HK.out).trans HU0.out; have f9 : w1.frozen? ⟨hb, k, none⟩ = false := (own_next N1.out TOP.out).frozenAt k; clear hu hb1))
            go_wp2_with fail
            refine ⟨⟨k + 1, us.set k (.slice Au l.length cu), by omega, by go_num, Lib.hid ?_, Lib.hid ?_, Lib.hid ?_, Lib.hid ?_⟩, by simp [intOf]; omega⟩
            · first | exact Bset1 (Bgo N.out N1.out) (by omega) k _ | exact (Bset1 (Bgo N.out N1.out) (by omega) k _).drew
            · exact blk_set_other (blk_next N1.out X.out) (by omega) k _
            · exact blk_set_other Y1.out HNE.out k _
            · rw [keepTo_put HL.out HP.out]
              exact OMx.setRow O.out (keepTo_len _ _ _) N1.out U1.out HB4.out.1 N.out.size
        · rw [hp] at HC
          have HP := Lib.hid hp
          clear hp
          go_wp2_with fail
          refine (HC.out _ N.out).mono ?_
          rintro e w1 ⟨rfl, rfl⟩
          go_wp2_with fail
          exact ⟨⟨k + 1, us, by omega, by go_num, N, X, Y, by rw [keepTo_skip HL.out (.inl HP.out)]; exact O⟩, by simp [intOf]; omega⟩
      · obtain rfl : k = m.length := by omega
        have y0 : wr.cell? ⟨cb, 0, none⟩ = some (.int .i64 D) := blk_cell Y.out 0 _ rfl
        have y1 : wr.cell? ⟨cb, 1, none⟩ = some (.int .i64 M) := blk_cell Y.out 1 _ rfl
        have y2 : wr.cell? ⟨cb, 2, none⟩ = some (.slice (some ⟨hb, 0, none⟩) m.length m.length) := blk_cell Y.out 2 _ rfl
        have x0 : wr.cell? ⟨w.heap.size + 1, 0, none⟩ = some (.int .i64 0) := blk_cell X.out 0 _ rfl
        have x1 : wr.cell? ⟨w.heap.size + 1, 1, none⟩ = some (.int .i64 0) := blk_cell X.out 1 _ rfl
        have x2 : wr.cell? ⟨w.heap.size + 1, 2, none⟩ = some (.slice none 0 0) := blk_cell X.out 2 _ rfl
        have f0 : wr.frozen? ⟨w.heap.size + 1, 0, none⟩ = false := blk_frozen X.out 0
        have f1 : wr.frozen? ⟨w.heap.size + 1, 1, none⟩ = false := blk_frozen X.out 1
        have f2 : wr.frozen? ⟨w.heap.size + 1, 2, none⟩ = false := blk_frozen X.out 2
        go_wp2_with fail
        have Z := blk_set3 X.out (.int .i64 D) (.int .i64 M) (.slice (some ⟨hb, 0, none⟩) m.length m.length)
        have e0 := blk_cell Z 0 _ rfl
        have e1 := blk_cell Z 1 _ rfl
        have e2 := blk_cell Z 2 _ rfl
        refine bodyPost_ret (v := Sv D M (.slice (some ⟨hb, 0, none⟩) m.length m.length)) (by simp [results, Try.results45, go_sem, e0, e1, e2]) rfl ⟨_, rfl, ⟨us, ?_⟩, ?_⟩
        · have := O.out
          rw [keepTo_full] at this
          exact this.set3_ X.out _ _ _
        · exact Bset3 N.out (by omega) _ _ _
end Go.Proofs.Ytmpmeeacdllomaa
