/- Rows of rows of bytes that are owned: each row in a block of its own. -/
import Derived.Test.YtmpmeeacdllomaaPas
import Derived.Deep.OwnRows
namespace Go.Proofs.Ytmpmeeacdllomaa
open Go.ChangeShapes Go.WideShapes Go.ChangeAt Go.RowKit Gf
set_option linter.unusedVariables false

theorem gblk {W w1 : World} {row : Option Nat} (hg : W.grownBy w1 row) {b : Nat} {o : Obj} (hb : W.heap[b]? = some o) (hne : some b ≠ row) : w1.heap[b]? = some o := (hg.block b (blk_lt hb) hne).trans hb
theorem gbel {w W w1 : World} {row : Option Nat} (hg : W.grownBy w1 row) (hb : Below w.heap.size w W) (hr : ∀ k, row = some k → w.heap.size ≤ k) : Below w.heap.size w w1 := hb.grown hg hb.size hr
theorem own_ne {W : World} {base g : Nat} {e t : TypeId} {size n : Nat} {v : Value} {xs : List Value} {cs : Array Value} {fz : Nat × Nat} (h : W.ownsRow base e size v n xs) (hg : W.heap[g]? = some (.cells cs t fz)) (hne : e ≠ t) : v.ownBlock ≠ some g := by
  rcases h.2 with ⟨rfl, _⟩ | ⟨g', cap, cur, rfl, _, hh, _⟩
  · simp [Value.ownBlock]
  · intro he
    have : g' = g := by simpa [Value.ownBlock] using he
    subst this
    rw [hh] at hg
    injection hg with hg
    injection hg with _ ht
    exact hne ht
theorem own_own {W : World} {base base' : Nat} {e e' : TypeId} {size size' n n' : Nat} {v v' : Value} {xs xs' : List Value} (h : W.ownsRow base e size v n xs) (h' : W.ownsRow base' e' size' v' n' xs') (hne : e ≠ e') : v'.ownBlock = none ∨ v'.ownBlock ≠ v.ownBlock := by
  rcases h'.2 with ⟨rfl, _⟩ | ⟨g', cap, cur, rfl, _, hh, _⟩
  · exact .inl rfl
  · exact .inr (fun hh' => own_ne h hh hne hh'.symm)
theorem own_next {W w1 : World} (hb : Below W.heap.size W w1) {base : Nat} {e : TypeId} {size : Nat} {v : Value} {n : Nat} {xs : List Value} (h : W.ownsRow base e size v n xs) : w1.ownsRow base e size v n xs := by
  obtain ⟨h1, h2 | ⟨g, cap, cur, e1, e2, e3, e4⟩⟩ := h
  · exact ⟨h1, .inl h2⟩
  · exact ⟨h1, .inr ⟨g, cap, cur, e1, e2, blk_next hb e3, e4⟩⟩
theorem own_mono {W : World} {base base' : Nat} {e : TypeId} {size : Nat} {v : Value} {n : Nat} {xs : List Value} (h : W.ownsRow base e size v n xs) (hB : base' ≤ base) : W.ownsRow base' e size v n xs := by
  obtain ⟨h1, h2 | ⟨g, cap, cur, e1, e2, e3, e4⟩⟩ := h
  · exact ⟨h1, .inl h2⟩
  · exact ⟨h1, .inr ⟨g, cap, cur, e1, by omega, e3, e4⟩⟩
theorem own_same {W w1 : World} {base : Nat} {e : TypeId} {size : Nat} {v : Value} {n : Nat} {xs : List Value} (h : W.ownsRow base e size v n xs) (hk : ∀ g cs, base ≤ g → W.heap[g]? = some (.cells cs e (0, 0)) → w1.heap[g]? = W.heap[g]?) : w1.ownsRow base e size v n xs := by
  obtain ⟨h1, h2 | ⟨g, cap, cur, e1, e2, e3, e4⟩⟩ := h
  · exact ⟨h1, .inl h2⟩
  · exact ⟨h1, .inr ⟨g, cap, cur, e1, e2, (hk g cur e2 e3).trans e3, e4⟩⟩
/- v is a row of the headers us, whose rows are the lists of m, each in a block of its own from B on -/
structure OMx (B : Nat) (w : World) (v : Value) (us : List Value) (m : List (List Nat)) : Prop where
  top : w.ownsRow B 57 1 v m.length us
  row : ∀ (i : Nat) (u : Value) (l : List Nat), us[i]? = some u → m[i]? = some l → OB B w u l
  byt : ∀ l ∈ m, Byt l
  apart : ∀ (i j : Nat) (u u' : Value), us[i]? = some u → us[j]? = some u' → i ≠ j → u.ownBlock = none ∨ u.ownBlock ≠ u'.ownBlock
def OM (B : Nat) (w : World) (v : Value) (m : List (List Nat)) : Prop := ∃ us, OMx B w v us m
theorem OMx.len {B : Nat} {w : World} {v : Value} {us : List Value} {m : List (List Nat)} (h : OMx B w v us m) : us.length = m.length := by
  have := h.top.1
  simpa using this
theorem OMx.rma {B : Nat} {w : World} {A : Option Addr} {c n : Nat} {us : List Value} {m : List (List Nat)} (h : OMx B w (.slice A n c) us m) : RMA B w A m := by
  refine ⟨us, h.len, ?_, fun i u l hu hl => (h.row i u l hu hl).rb (h.byt l (List.mem_of_getElem? hl))⟩
  obtain ⟨A', c', e, _⟩ := own_form h.top
  have ht := h.top
  rw [e] at ht
  simp only [Value.slice.injEq] at e
  rw [e.1]
  exact Hd.of_own ht
theorem OM.rm {B : Nat} {w : World} {v : Value} {m : List (List Nat)} (h : OM B w v m) : RM B w v m := by
  obtain ⟨us, h⟩ := h
  obtain ⟨A, c, rfl, h1, h2, _⟩ := own_form h.top
  exact ⟨A, c, rfl, h1, h2, h.rma⟩
theorem OMx.nil (B : Nat) (w : World) : OMx B w (.slice none 0 0) [] [] := ⟨World.ownsRow_nil _ _ _ _, fun i u l hu => by simp at hu, fun l hl => by simp at hl, fun i j u u' hu => by simp at hu⟩
theorem OMx.next {B : Nat} {w w' : World} {v : Value} {us : List Value} {m : List (List Nat)} (hb : Below w.heap.size w w') (h : OMx B w v us m) : OMx B w' v us m :=
  ⟨own_next hb h.top, fun i u l hu hl => own_next hb (h.row i u l hu hl), h.byt, h.apart⟩
theorem OM.next {B : Nat} {w w' : World} {v : Value} {m : List (List Nat)} (hb : Below w.heap.size w w') (h : OM B w v m) : OM B w' v m := by
  obtain ⟨us, h⟩ := h
  exact ⟨us, h.next hb⟩
theorem OMx.mono {B B' : Nat} {w : World} {v : Value} {us : List Value} {m : List (List Nat)} (h : OMx B w v us m) (hB : B' ≤ B) : OMx B' w v us m :=
  ⟨own_mono h.top hB, fun i u l hu hl => own_mono (h.row i u l hu hl) hB, h.byt, h.apart⟩
theorem OM.mono {B B' : Nat} {w : World} {v : Value} {m : List (List Nat)} (h : OM B w v m) (hB : B' ≤ B) : OM B' w v m := by
  obtain ⟨us, h⟩ := h
  exact ⟨us, h.mono hB⟩
theorem OMx.same {B : Nat} {w w' : World} {v : Value} {us : List Value} {m : List (List Nat)} (h : OMx B w v us m) (hk : ∀ g cs t, B ≤ g → w.heap[g]? = some (.cells cs t (0, 0)) → (t = 5 ∨ t = 57) → w'.heap[g]? = w.heap[g]?) : OMx B w' v us m :=
  ⟨own_same h.top (fun g cs hg hh => hk g cs _ hg hh (.inr rfl)), fun i u l hu hl => own_same (h.row i u l hu hl) (fun g cs hg hh => hk g cs _ hg hh (.inl rfl)), h.byt, h.apart⟩
theorem OMx.ext {B : Nat} {w : World} {v : Value} {us : List Value} {m m' : List (List Nat)} (h : OMx B w v us m) (e : m = m') : OMx B w v us m' := e ▸ h
/- a store into a block of another type -/
theorem OMx.set_ {B : Nat} {w : World} {v : Value} {us : List Value} {m : List (List Nat)} (h : OMx B w v us m) {g o : Nat} {cs : Array Value} {t : TypeId} {fz : Nat × Nat} (hg : w.heap[g]? = some (.cells cs t fz)) (h1 : t ≠ 5) (h2 : t ≠ 57) (x : Value) : OMx B (w.setCell ⟨g, o, none⟩ x) v us m :=
  h.same fun g' cs' t' _ hh ht => Below.heap_setCell w ⟨g, o, none⟩ x g' (fun e => by
    have e' : g' = g := e
    subst e'
    rw [hg] at hh
    injection hh with hh
    injection hh with _ ht' _
    rw [ht'] at h1 h2
    rcases ht with ht | ht
    · exact h1 ht
    · exact h2 ht)
theorem get_append_one {α : Type} {us : List α} {u x : α} {i : Nat} (h : (us ++ [u])[i]? = some x) : us[i]? = some x ∨ (i = us.length ∧ x = u) := by
  rcases Nat.lt_or_ge i us.length with hl | hl
  · rw [List.getElem?_append_left hl] at h; exact .inl h
  · rw [List.getElem?_append_right hl] at h
    have h0 : i - us.length = 0 := by
      have := (List.getElem?_eq_some_iff.1 h).1
      simp at this; omega
    rw [h0] at h
    exact .inr ⟨by omega, by simpa using h.symm⟩
/- a new row behind the others -/
theorem OMx.push {B : Nat} {W0 W W' : World} {v v' u : Value} {us : List Value} {m : List (List Nat)} {l : List Nat} (h : OMx B W0 v us m) (hb : Below W0.heap.size W0 W) (hu : OB W0.heap.size W u l) (hl : Byt l) (hB : B ≤ W0.heap.size)
    (hown : W'.ownsRow B 57 1 v' (m.length + 1) (us ++ [u])) (hg : W.grownBy W' v.ownBlock) : OMx B W' v' (us ++ [u]) (m ++ [l]) := by
  have ht := own_next hb h.top
  have keep : ∀ {base : Nat} {x : Value} {k : List Nat}, OB base W x k → OB base W' x k := fun hx => hx.kept hg (own_own ht hx (by decide))
  refine ⟨by simpa using hown, fun i x k hx hk => ?_, fun k hk => ?_, fun i j x x' hx hx' hij => ?_⟩
  · rcases get_append_one hx with h1 | ⟨h1, rfl⟩
    · rcases get_append_one hk with h2 | ⟨h2, rfl⟩
      · exact keep (own_next hb (h.row i x k h1 h2))
      · have := get_lt h1; rw [h.len] at this; omega
    · rcases get_append_one hk with h2 | ⟨h2, rfl⟩
      · have := get_lt h2; rw [h.len] at h1; omega
      · exact own_mono (keep hu) hB
  · rcases List.mem_append.1 hk with h1 | h1
    · exact h.byt k h1
    · simp at h1; subst h1; exact hl
  · have old : ∀ {i : Nat} {x : Value}, us[i]? = some x → ∀ g, x.ownBlock = some g → g < W0.heap.size := fun {i x} h1 g hg' => by
      obtain ⟨k, hk⟩ := get_some (show i < m.length by have := get_lt h1; rw [h.len] at this; exact this)
      exact ((h.row i x k h1 hk).lt g hg').2
    have new : ∀ g, u.ownBlock = some g → W0.heap.size ≤ g := fun g hg' => (hu.lt g hg').1
    rcases get_append_one hx with h1 | ⟨h1, rfl⟩
    · rcases get_append_one hx' with h2 | ⟨h2, rfl⟩
      · exact h.apart i j x x' h1 h2 hij
      · cases e : x.ownBlock with
        | none => exact .inl rfl
        | some g =>
          refine .inr fun e' => ?_
          have := old h1 g e
          have := new g e'.symm
          omega
    · rcases get_append_one hx' with h2 | ⟨h2, rfl⟩
      · cases e : x.ownBlock with
        | none => exact .inl rfl
        | some g =>
          refine .inr fun e' => ?_
          have := old h2 g e'.symm
          have := new g e
          omega
      · omega
theorem rd_one {w : World} {g : Nat} {u : Value} {t : TypeId} (h : w.heap[g]? = some (.cells #[u] t)) : Rd w 1 (some ⟨g, 0, none⟩) 1 [u] :=
  ⟨rfl, fun _ => ⟨g, 0, rfl, blk_lt h, fun j x hx => blk_cell h _ _ (by
    match j, hx with
    | 0, hx => simpa using hx
    | j + 1, hx => simp at hx)⟩⟩
theorem slice_one (A : Option Addr) (n c : Nat) : ∀ u ∈ [Value.slice A n c], u.oneCell' = true := by
  intro u hu; simp at hu; subst hu; rfl
theorem make_row (W : World) (n : Nat) (h : n ≤ 281474976710656) : (Instr.makeSlice 57 (.int .i64 (n : Int)) (.int .i64 (n : Int))).run Try.prog W = .ok (.slice (some ⟨W.heap.size, 0, none⟩) n n) (W.alloc (.cells (madeCells #[.int .u8 0] n) 5)) :=
  run_make_row' 57 5 (.int .u8 0) 1 Try.underlying57 u8_info rfl .i64 .i64 n (by omega) (by omega) W
theorem made_own (W : World) (n : Nat) (h : n ≤ 9223372036854775807) : (W.alloc (.cells (madeCells #[.int .u8 0] n) 5)).ownsRow W.heap.size 5 1 (.slice (some ⟨W.heap.size, 0, none⟩) n n) n (bv (List.replicate n 0)) := by
  have := World.ownsRow_lit (base := W.heap.size) (size := 1) (e := 5) W (madeCells #[.int .u8 0] n) n (Nat.le_refl _) (by simp [maxLen]; omega) (by rw [size_madeCells]; omega)
  rw [toList_madeCells_one] at this
  simpa [bv] using this
theorem rep_byt (n : Nat) : Byt (List.replicate n 0) := fun x hx => by
  have := List.eq_of_mem_replicate hx
  omega
theorem gblk_ty {W w1 : World} {base b : Nat} {e t : TypeId} {size n : Nat} {v : Value} {xs : List Value} {cs : Array Value} (hg : W.grownBy w1 v.ownBlock) (ho : W.ownsRow base e size v n xs) (hb : W.heap[b]? = some (.cells cs t)) (hne : e ≠ t) : w1.heap[b]? = some (.cells cs t) :=
  gblk hg hb (fun h => own_ne ho hb hne h.symm)
theorem ne_sl_st : (57 : TypeId) ≠ 31 := by decide
theorem ne_u8_st : (5 : TypeId) ≠ 31 := by decide
theorem ne_st_u8 : (31 : TypeId) ≠ 5 := by decide
theorem ne_st_sl : (31 : TypeId) ≠ 57 := by decide
theorem ne_sl_u8 : (57 : TypeId) ≠ 5 := by decide
theorem ne_u8_sl : (5 : TypeId) ≠ 57 := by decide
theorem ne_sl_int : (57 : TypeId) ≠ 3 := by decide
theorem ne_int_sl : (3 : TypeId) ≠ 57 := by decide
theorem ne_u8_int : (5 : TypeId) ≠ 3 := by decide
theorem ne_int_u8 : (3 : TypeId) ≠ 5 := by decide
theorem ne_int_st : (3 : TypeId) ≠ 31 := by decide
theorem RBA.ne_ {B g : Nat} {w : World} {A : Option Addr} {l : List Nat} (h : RBA B w A l) (hg : w.heap.size ≤ g) : ∀ b off, A = some ⟨b, off, none⟩ → l ≠ [] → b ≠ g := fun b off hA hne => by
  obtain ⟨x, hx⟩ := List.exists_mem_of_ne_nil l hne
  obtain ⟨i, hi, rfl⟩ := List.mem_iff_getElem.1 hx
  obtain ⟨b', off', e, hl, _⟩ := h.at_ (List.getElem?_eq_getElem hi)
  rw [hA] at e
  injection e with e
  injection e with e1 _
  omega
/- the three cells of a stripe's variable stored -/
abbrev set3 (w : World) (g : Nat) (x y z : Value) : World := ((w.setCell ⟨g, 0, none⟩ x).setCell ⟨g, 1, none⟩ y).setCell ⟨g, 2, none⟩ z
theorem blk_set3 {w : World} {g : Nat} {a b c : Value} {t : TypeId} (h : w.heap[g]? = some (.cells #[a, b, c] t)) (x y z : Value) : (set3 w g x y z).heap[g]? = some (.cells #[x, y, z] t) :=
  blk_set (blk_set (blk_set h 0 x) 1 y) 2 z
theorem Bset3 {w W : World} (h : Below w.heap.size w W) {g : Nat} (hg : w.heap.size ≤ g) (x y z : Value) : Below w.heap.size w (set3 W g x y z) := Bset1 (Bset1 (Bset1 h hg 0 x) hg 1 y) hg 2 z
theorem blk_set3_other {w : World} {g b : Nat} {o : Obj} (h : w.heap[b]? = some o) (hne : g ≠ b) (x y z : Value) : (set3 w g x y z).heap[b]? = some o :=
  blk_set_other (blk_set_other (blk_set_other h hne 0 x) hne 1 y) hne 2 z
theorem OMx.set3_ {B : Nat} {w : World} {v : Value} {us : List Value} {m : List (List Nat)} (h : OMx B w v us m) {g : Nat} {cs : Array Value} (hg : w.heap[g]? = some (.cells cs 31)) (x y z : Value) : OMx B (set3 w g x y z) v us m :=
  ((h.set_ hg ne_st_u8 ne_st_sl x).set_ (blk_set hg 0 x) ne_st_u8 ne_st_sl y).set_ (blk_set (blk_set hg 0 x) 1 y) ne_st_u8 ne_st_sl z
theorem gundrew {a b : World} {row : Option Nat} (h : a.drew.grownBy b row) : a.grownBy b row := ⟨h.os, h.tape, h.output, h.size, h.block⟩
end Go.Proofs.Ytmpmeeacdllomaa
