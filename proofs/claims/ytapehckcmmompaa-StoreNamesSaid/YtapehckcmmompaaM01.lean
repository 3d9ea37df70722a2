/- Several texts in one. -/
import Derived.Deep.OwnRows
import Derived.StillTailTactics
import Derived.Test.YtapehckcmmompaaM00
namespace Go.Proofs.Ytapehckcmmompaa
open Go.ChangeShapes Go.WideShapes Go.ChangeAt Go.RowKit Gf
set_option linter.unusedVariables false
set_option maxRecDepth 100000
theorem gblk {W w1 : World} {row : Option Nat} (hg : W.grownBy w1 row) {b : Nat} {o : Obj} (hb : W.heap[b]? = some o) (hne : some b ≠ row) : w1.heap[b]? = some o := (hg.block b (blk_lt hb) hne).trans hb
theorem gbel {w W w1 : World} {row : Option Nat} (hg : W.grownBy w1 row) (hb : Below w.heap.size w W) (hr : ∀ k, row = some k → w.heap.size ≤ k) : Below w.heap.size w w1 := hb.grown hg hb.size hr
theorem own_ne {W : World} {base g : Nat} {e t : TypeId} {size n : Nat} {v : Value} {xs : List Value} {cs : Array Value} {fz : Nat × Nat} (h : W.ownsRow base e size v n xs) (hg : W.heap[g]? = some (.cells cs t fz)) (hne : e ≠ t) : v.ownBlock ≠ some g := by
 rcases h.2 with ⟨rfl, _⟩ | ⟨g', cap, cur, rfl, _, hh, _⟩
 ·simp [Value.ownBlock]
 ·intro he
  have : g' = g := by simpa [Value.ownBlock] using he
  subst this
  rw [hh] at hg
  injection hg with hg
  injection hg with _ ht
  exact hne ht
theorem own_own {W : World} {base base' : Nat} {e e' : TypeId} {size size' n n' : Nat} {v v' : Value} {xs xs' : List Value} (h : W.ownsRow base e size v n xs) (h' : W.ownsRow base' e' size' v' n' xs') (hne : e ≠ e') : v'.ownBlock = none ∨ v'.ownBlock ≠ v.ownBlock := by
 rcases h'.2 with ⟨rfl, _⟩ | ⟨g', cap, cur, rfl, _, hh, _⟩
 ·exact .inl rfl
 ·exact .inr (fun hh' => own_ne h hh hne hh'.symm)
theorem own_next {W w1 : World} (hb : Below W.heap.size W w1) {base : Nat} {e : TypeId} {size : Nat} {v : Value} {n : Nat} {xs : List Value} (h : W.ownsRow base e size v n xs) : w1.ownsRow base e size v n xs := by
 obtain ⟨h1, h2 | ⟨g, cap, cur, e1, e2, e3, e4⟩⟩ := h
 ·exact ⟨h1, .inl h2⟩
 ·exact ⟨h1, .inr ⟨g, cap, cur, e1, e2, blk_next hb e3, e4⟩⟩
theorem own_mono {W : World} {base base' : Nat} {e : TypeId} {size : Nat} {v : Value} {n : Nat} {xs : List Value} (h : W.ownsRow base e size v n xs) (hB : base' ≤ base) : W.ownsRow base' e size v n xs := by
 obtain ⟨h1, h2 | ⟨g, cap, cur, e1, e2, e3, e4⟩⟩ := h
 ·exact ⟨h1, .inl h2⟩
 ·exact ⟨h1, .inr ⟨g, cap, cur, e1, by omega, e3, e4⟩⟩
theorem own_same {W w1 : World} {base : Nat} {e : TypeId} {size : Nat} {v : Value} {n : Nat} {xs : List Value} (h : W.ownsRow base e size v n xs) (hk : ∀ g cs, base ≤ g → W.heap[g]? = some (.cells cs e (0, 0)) → w1.heap[g]? = W.heap[g]?) : w1.ownsRow base e size v n xs := by
 obtain ⟨h1, h2 | ⟨g, cap, cur, e1, e2, e3, e4⟩⟩ := h
 ·exact ⟨h1, .inl h2⟩
 ·exact ⟨h1, .inr ⟨g, cap, cur, e1, e2, (hk g cur e2 e3).trans e3, e4⟩⟩
structure OMx (B : Nat) (w : World) (v : Value) (us : List Value) (m : List (List Nat)) : Prop where
 top : w.ownsRow B 26 1 v m.length us
 row : ∀ (i : Nat) (u : Value) (l : List Nat), us[i]? = some u → m[i]? = some l → OB B w u l
 byt : ∀ l ∈ m, Byt l
 apart : ∀ (i j : Nat) (u u' : Value), us[i]? = some u → us[j]? = some u' → i ≠ j → u.ownBlock = none ∨ u.ownBlock ≠ u'.ownBlock
def OM (B : Nat) (w : World) (v : Value) (m : List (List Nat)) : Prop := ∃ us, OMx B w v us m
theorem OMx.len {B : Nat} {w : World} {v : Value} {us : List Value} {m : List (List Nat)} (h : OMx B w v us m) : us.length = m.length := by
 have := h.top.1
 simpa using this
theorem OMx.rma {B : Nat} {w : World} {A : Option Addr} {c n : Nat} {us : List Value} {m : List (List Nat)} (h : OMx B w (.slice A n c) us m) : RMA B w A m := by
 refine ⟨us, h.len, ?_, fun i u l hu hl => (h.row i u l hu hl).rb (h.byt l (List.mem_of_getElem? hl))⟩
 obtain ⟨A', c', e, _⟩ := own_form h.top
 have ht := h.top
 rw [e] at ht
 simp only [Value.slice.injEq] at e
 rw [e.1]
 exact Hd.of_own ht
theorem OM.rm {B : Nat} {w : World} {v : Value} {m : List (List Nat)} (h : OM B w v m) : RM B w v m := by
 obtain ⟨us, h⟩ := h
 obtain ⟨A, c, rfl, h1, h2, _⟩ := own_form h.top
 exact ⟨A, c, rfl, h1, h2, h.rma⟩
theorem OMx.nil (B : Nat) (w : World) : OMx B w (.slice none 0 0) [] [] := ⟨World.ownsRow_nil _ _ _ _, fun i u l hu => by simp at hu, fun l hl => by simp at hl, fun i j u u' hu => by simp at hu⟩
theorem OMx.next {B : Nat} {w w' : World} {v : Value} {us : List Value} {m : List (List Nat)} (hb : Below w.heap.size w w') (h : OMx B w v us m) : OMx B w' v us m :=
 ⟨own_next hb h.top, fun i u l hu hl => own_next hb (h.row i u l hu hl), h.byt, h.apart⟩
theorem OM.next {B : Nat} {w w' : World} {v : Value} {m : List (List Nat)} (hb : Below w.heap.size w w') (h : OM B w v m) : OM B w' v m := by
 obtain ⟨us, h⟩ := h
 exact ⟨us, h.next hb⟩
theorem OMx.mono {B B' : Nat} {w : World} {v : Value} {us : List Value} {m : List (List Nat)} (h : OMx B w v us m) (hB : B' ≤ B) : OMx B' w v us m :=
 ⟨own_mono h.top hB, fun i u l hu hl => own_mono (h.row i u l hu hl) hB, h.byt, h.apart⟩
theorem OM.mono {B B' : Nat} {w : World} {v : Value} {m : List (List Nat)} (h : OM B w v m) (hB : B' ≤ B) : OM B' w v m := by
 obtain ⟨us, h⟩ := h
 exact ⟨us, h.mono hB⟩
theorem OMx.same {B : Nat} {w w' : World} {v : Value} {us : List Value} {m : List (List Nat)} (h : OMx B w v us m) (hk : ∀ g cs t, B ≤ g → w.heap[g]? = some (.cells cs t (0, 0)) → (t = 5 ∨ t = 26) → w'.heap[g]? = w.heap[g]?) : OMx B w' v us m :=
 ⟨own_same h.top (fun g cs hg hh => hk g cs _ hg hh (.inr rfl)), fun i u l hu hl => own_same (h.row i u l hu hl) (fun g cs hg hh => hk g cs _ hg hh (.inl rfl)), h.byt, h.apart⟩
theorem OMx.set_ {B : Nat} {w : World} {v : Value} {us : List Value} {m : List (List Nat)} (h : OMx B w v us m) {g o : Nat} {cs : Array Value} {t : TypeId} {fz : Nat × Nat} (hg : w.heap[g]? = some (.cells cs t fz)) (h1 : t ≠ 5) (h2 : t ≠ 26) (x : Value) : OMx B (w.setCell ⟨g, o, none⟩ x) v us m :=
 h.same fun g' cs' t' _ hh ht => Below.heap_setCell w ⟨g, o, none⟩ x g' (fun e => by
  have e' : g' = g := e
  subst e'
  rw [hg] at hh
  injection hh with hh
  injection hh with _ ht' _
  rw [ht'] at h1 h2
  rcases ht with ht | ht
  ·exact h1 ht
  ·exact h2 ht)
theorem get_append_one {α : Type} {us : List α} {u x : α} {i : Nat} (h : (us ++ [u])[i]? = some x) : us[i]? = some x ∨ (i = us.length ∧ x = u) := by
 rcases Nat.lt_or_ge i us.length with hl | hl
 ·rw [List.getElem?_append_left hl] at h; exact .inl h
 ·rw [List.getElem?_append_right hl] at h
  have h0 : i - us.length = 0 := by
   have := (List.getElem?_eq_some_iff.1 h).1
   simp at this; omega
  rw [h0] at h
  exact .inr ⟨by omega, by simpa using h.symm⟩
theorem OMx.push {B : Nat} {W0 W W' : World} {v v' u : Value} {us : List Value} {m : List (List Nat)} {l : List Nat} (h : OMx B W0 v us m) (hb : Below W0.heap.size W0 W) (hu : OB W0.heap.size W u l) (hl : Byt l) (hB : B ≤ W0.heap.size)
  (hown : W'.ownsRow B 26 1 v' (m.length + 1) (us ++ [u])) (hg : W.grownBy W' v.ownBlock) : OMx B W' v' (us ++ [u]) (m ++ [l]) := by
 have ht := own_next hb h.top
 have keep : ∀ {base : Nat} {x : Value} {k : List Nat}, OB base W x k → OB base W' x k := fun hx => hx.kept hg (own_own ht hx (by decide))
 refine ⟨by simpa using hown, fun i x k hx hk => ?_, fun k hk => ?_, fun i j x x' hx hx' hij => ?_⟩
 ·rcases get_append_one hx with h1 | ⟨h1, rfl⟩
  ·rcases get_append_one hk with h2 | ⟨h2, rfl⟩
   ·exact keep (own_next hb (h.row i x k h1 h2))
   ·have := get_lt h1; rw [h.len] at this; omega
  ·rcases get_append_one hk with h2 | ⟨h2, rfl⟩
   ·have := get_lt h2; rw [h.len] at h1; omega
   ·exact own_mono (keep hu) hB
 ·rcases List.mem_append.1 hk with h1 | h1
  ·exact h.byt k h1
  ·simp at h1; subst h1; exact hl
 ·have old : ∀ {i : Nat} {x : Value}, us[i]? = some x → ∀ g, x.ownBlock = some g → g < W0.heap.size := fun {i x} h1 g hg' => by
   obtain ⟨k, hk⟩ := get_some (show i < m.length by have := get_lt h1; rw [h.len] at this; exact this)
   exact ((h.row i x k h1 hk).lt g hg').2
  have new : ∀ g, u.ownBlock = some g → W0.heap.size ≤ g := fun g hg' => (hu.lt g hg').1
  rcases get_append_one hx with h1 | ⟨h1, rfl⟩
  ·rcases get_append_one hx' with h2 | ⟨h2, rfl⟩
   ·exact h.apart i j x x' h1 h2 hij
   ·cases e : x.ownBlock with
    | none => exact .inl rfl
    | some g =>
     refine .inr fun e' => ?_
     have := old h1 g e
     have := new g e'.symm
     omega
  ·rcases get_append_one hx' with h2 | ⟨h2, rfl⟩
   ·cases e : x.ownBlock with
    | none => exact .inl rfl
    | some g =>
     refine .inr fun e' => ?_
     have := old h2 g e'.symm
     have := new g e
     omega
   ·omega
theorem rd_one {w : World} {g : Nat} {u : Value} {t : TypeId} (h : w.heap[g]? = some (.cells #[u] t)) : Rd w 1 (some ⟨g, 0, none⟩) 1 [u] :=
 ⟨rfl, fun _ => ⟨g, 0, rfl, blk_lt h, fun j x hx => blk_cell h _ _ (by
  match j, hx with
  | 0, hx => simpa using hx
  | j + 1, hx => simp at hx)⟩⟩
theorem slice_one (A : Option Addr) (n c : Nat) : ∀ u ∈ [Value.slice A n c], u.oneCell' = true := by
 intro u hu; simp at hu; subst hu; rfl
theorem make_row (W : World) (n : Nat) (h : n ≤ 281474976710656) : (Instr.makeSlice 26 (.int .i64 (n : Int)) (.int .i64 (n : Int))).run Try.prog W = .ok (.slice (some ⟨W.heap.size, 0, none⟩) n n) (W.alloc (.cells (madeCells #[.int .u8 0] n) 5)) :=
 run_make_row' 26 5 (.int .u8 0) 1 Try.underlying26 u8_info rfl .i64 .i64 n (by omega) (by omega) W
theorem made_own (W : World) (n : Nat) (h : n ≤ 9223372036854775807) : (W.alloc (.cells (madeCells #[.int .u8 0] n) 5)).ownsRow W.heap.size 5 1 (.slice (some ⟨W.heap.size, 0, none⟩) n n) n (bv (List.replicate n 0)) := by
 have := World.ownsRow_lit (base := W.heap.size) (size := 1) (e := 5) W (madeCells #[.int .u8 0] n) n (Nat.le_refl _) (by simp [maxLen]; omega) (by rw [size_madeCells]; omega)
 rw [toList_madeCells_one] at this
 simpa [bv] using this
theorem rep_byt (n : Nat) : Byt (List.replicate n 0) := fun x hx => by
 have := List.eq_of_mem_replicate hx
 omega
theorem gblk_ty {W w1 : World} {base b : Nat} {e t : TypeId} {size n : Nat} {v : Value} {xs : List Value} {cs : Array Value} (hg : W.grownBy w1 v.ownBlock) (ho : W.ownsRow base e size v n xs) (hb : W.heap[b]? = some (.cells cs t)) (hne : e ≠ t) : w1.heap[b]? = some (.cells cs t) :=
 gblk hg hb (fun h => own_ne ho hb hne h.symm)
theorem ne_sl_st : (26 : TypeId) ≠ 54 := by decide
theorem ne_st_u8 : (54 : TypeId) ≠ 5 := by decide
theorem ne_st_sl : (54 : TypeId) ≠ 26 := by decide
theorem ne_sl_u8 : (26 : TypeId) ≠ 5 := by decide
theorem RBA.ne_ {B g : Nat} {w : World} {A : Option Addr} {l : List Nat} (h : RBA B w A l) (hg : w.heap.size ≤ g) : ∀ b off, A = some ⟨b, off, none⟩ → l ≠ [] → b ≠ g := fun b off hA hne => by
 obtain ⟨x, hx⟩ := List.exists_mem_of_ne_nil l hne
 obtain ⟨i, hi, rfl⟩ := List.mem_iff_getElem.1 hx
 obtain ⟨b', off', e, hl, _⟩ := h.at_ (List.getElem?_eq_getElem hi)
 rw [hA] at e
 injection e with e
 injection e with e1 _
 omega
abbrev set3 (w : World) (g : Nat) (x y z : Value) : World := ((w.setCell ⟨g, 0, none⟩ x).setCell ⟨g, 1, none⟩ y).setCell ⟨g, 2, none⟩ z
theorem blk_set3 {w : World} {g : Nat} {a b c : Value} {t : TypeId} (h : w.heap[g]? = some (.cells #[a, b, c] t)) (x y z : Value) : (set3 w g x y z).heap[g]? = some (.cells #[x, y, z] t) :=
 blk_set (blk_set (blk_set h 0 x) 1 y) 2 z
theorem Bset3 {w W : World} (h : Below w.heap.size w W) {g : Nat} (hg : w.heap.size ≤ g) (x y z : Value) : Below w.heap.size w (set3 W g x y z) := Bset1 (Bset1 (Bset1 h hg 0 x) hg 1 y) hg 2 z
theorem blk_set3_other {w : World} {g b : Nat} {o : Obj} (h : w.heap[b]? = some o) (hne : g ≠ b) (x y z : Value) : (set3 w g x y z).heap[b]? = some o :=
 blk_set_other (blk_set_other (blk_set_other h hne 0 x) hne 1 y) hne 2 z
theorem OMx.set3_ {B : Nat} {w : World} {v : Value} {us : List Value} {m : List (List Nat)} (h : OMx B w v us m) {g : Nat} {cs : Array Value} (hg : w.heap[g]? = some (.cells cs 54)) (x y z : Value) : OMx B (set3 w g x y z) v us m :=
 ((h.set_ hg ne_st_u8 ne_st_sl x).set_ (blk_set hg 0 x) ne_st_u8 ne_st_sl y).set_ (blk_set (blk_set hg 0 x) 1 y) ne_st_u8 ne_st_sl z
theorem gundrew {a b : World} {row : Option Nat} (h : a.drew.grownBy b row) : a.grownBy b row := ⟨h.os, h.tape, h.output, h.size, h.block⟩
end Go.Proofs.Ytapehckcmmompaa
namespace Go.Proofs.Ytapehckcmmompaa
open Go.ChangeShapes Go.WideShapes Go.ChangeAt Go.RowKit Gf
set_option linter.unusedVariables false
set_option maxRecDepth 100000
attribute [local go_sem ↓] Go.wp_at_zero Go.wp_at_succ
def parTo (d : List (List Nat)) (j : Nat) : Nat → List Nat
 | 0 => List.replicate (d.getD 0 []).length 0
 | i + 1 => addR (parTo d j i) (d.getD i []) (fac d.length j i)
def par (d : List (List Nat)) (j : Nat) : List Nat := parTo d j d.length
def enc (d : List (List Nat)) (M : Nat) : List (List Nat) := d ++ (List.range M).map (par d)
theorem parTo_len (d : List (List Nat)) (j i : Nat) : (parTo d j i).length = (d.getD 0 []).length := by
 induction i with
 | zero => simp [parTo]
 | succ i ih => rw [parTo, addR_len, ih]
theorem parTo_byt {d : List (List Nat)} {j : Nat} (hD : d.length ≤ 8) (hj : j < 4) : ∀ i, i ≤ d.length → Byt (parTo d j i)
 | 0, _ => rep_byt _
 | i + 1, hi => addR_byt (parTo_byt hD hj i (by omega)) (fac_lt (by omega) (by omega))
theorem par_byt {d : List (List Nat)} {j : Nat} (hD : d.length ≤ 8) (hj : j < 4) : Byt (par d j) := parTo_byt hD hj _ (Nat.le_refl _)
theorem getD_of {m : List (List Nat)} {i : Nat} {l : List Nat} (h : m[i]? = some l) : m.getD i [] = l := by rw [List.getD_eq_getElem?_getD, h]; rfl
def EncPost (w : World) (d : List (List Nat)) (M : Nat) (e : Ending) (w' : World) : Prop := ∃ v, e = .returned (Sv d.length M v) ∧ OM w.heap.size w' v (enc d M) ∧ Below w.heap.size w w'
set_option maxHeartbeats 2000000 in
theorem encoded_calls (A : Option Addr) (c B : Nat) (d : List (List Nat)) (M n : Nat) (w : World) (hn : d.length ≤ c) (hc : c ≤ 9223372036854775807) (hs : RMA B w A d) (hd0 : 0 < d.length) (hd8 : d.length ≤ 8) (hM : M ≤ 4) (hn64 : n ≤ 64) (hlen : ∀ l ∈ d, l.length = n) :
  Calls Try.prog 64 #[.slice A d.length c, .int .i64 M] w (EncPost w d M) := by
 obtain ⟨s0, hs0⟩ := get_some hd0
 have hl0 : s0.length = n := hlen s0 (List.mem_of_getElem? hs0)
 obtain ⟨i0, hi0, hz0, hz1, hz2⟩ := info_parts sl_info
 have HI := Lib.hid (And.intro hi0 (And.intro hz0 (And.intro hz1 hz2)))
 clear hi0 hz0 hz1 hz2
 have HS := Lib.hid hs
 have HLEN := Lib.hid hlen
 clear hs hlen
 go_enter Try.func64, Try.ntmps64
 go_wp2_with fail
 have X0 : Hid (((w.alloc (.cells #[.int .i64 0, .int .i64 0, .slice none 0 0] 54)).alloc (.cells #[.int .i64 d.length, .int .i64 M, .slice none 0 0] 54)).heap[w.heap.size]? = some (.cells #[.int .i64 0, .int .i64 0, .slice none 0 0] 54)) := Lib.hid (blk_alloc (blk_new w _) _)
 have Y0 : Hid (((w.alloc (.cells #[.int .i64 0, .int .i64 0, .slice none 0 0] 54)).alloc (.cells #[.int .i64 d.length, .int .i64 M, .slice none 0 0] 54)).heap[w.heap.size + 1]? = some (.cells #[.int .i64 d.length, .int .i64 M, .slice none 0 0] 54)) := Lib.hid (blk_at _ (by simp))
 have N0 : Hid (Below w.heap.size w ((w.alloc (.cells #[.int .i64 0, .int .i64 0, .slice none 0 0] 54)).alloc (.cells #[.int .i64 d.length, .int .i64 M, .slice none 0 0] 54))) := Lib.hid (Bal (Bal (Below.refl _ _) _) _)
 go_loopw [18] (fun i wr => ∃ (k : Nat) (v : Value) (us : List Value), k ≤ d.length ∧ i = .int .i64 k ∧ Hid (Below w.heap.size w wr) ∧ Hid (wr.heap[w.heap.size]? = some (.cells #[.int .i64 0, .int .i64 0, .slice none 0 0] 54)) ∧ Hid (wr.heap[w.heap.size + 1]? = some (.cells #[.int .i64 d.length, .int .i64 M, v] 54)) ∧ Hid (OMx w.heap.size wr v us (d.take k))) (fun i _ => d.length - (intOf i).toNat)
 case atStart => exact ⟨0, _, [], by omega, rfl, N0, X0, Y0, Lib.hid (by rw [List.take_zero]; exact OMx.nil _ _)⟩
 case round =>
  clear X0 Y0 N0
  obtain ⟨k, v, us, hk, rfl, N, X, Y, O⟩ := hrel
  by_cases hlt : k < d.length
  ·obtain ⟨l, hl⟩ := get_some hlt
   obtain ⟨b, off, Ai, ci, rfl, hb, h1, h2, h3, h4⟩ := (HS.out.next N.out).at_ hl
   have hln : l.length ≤ 64 := by rw [HLEN.out l (List.mem_of_getElem? hl)]; exact hn64
   have HB4 := Lib.hid h4
   have HL := Lib.hid hl
   have TL : Hid ((d.take k).length = k) := Lib.hid (by rw [List.length_take]; omega)
   obtain ⟨Av, cv, hv, hv1, hv2, _⟩ := own_form O.out.top
   rw [TL.out] at hv hv1
   subst hv
   clear hl h4
   have y2 : wr.cell? ⟨w.heap.size + 1, 2, none⟩ = some (.slice Av k cv) := blk_cell Y.out 2 _ rfl
   have hz : w.heap.size + 1 < wr.heap.size := blk_lt Y.out
   go_wp2_with fail
   have TOP : Hid (wr.ownsRow w.heap.size 26 1 (.slice Av k cv) k us) := Lib.hid (by have := O.out.top; rw [TL.out] at this; exact this)
   go_region_law (first
     | (refine step_append_rd _ (by rfl) _ _ 44 (by rfl) w.heap.size 26 i0 (.slice none 0 0) 1 24 Try.underlying44 HI.out.1 HI.out.2.1 HI.out.2.2.1 HI.out.2.2.2 rfl (by decide) _ k us (by rfl) ?_ (some ⟨w1.heap.size, 0, none⟩) 1 1 [.slice Au l.length cu] (by rfl) ?_ (slice_one _ _ _) ?_ ?_ ?_ ?_; (first | exact (own_next N1.out TOP.out).alloc _ | exact ((own_next N1.out TOP.out).alloc _).drew); (exact rd_one (t := 26) (blk_new _ _)); (simp only [maxLen]; omega); omega; (first | exact N.out.size | (have q1 := N.out.size; have q2 := N1.out.size; simp; omega)); intro v2 w2 hown2 hg2 hat2; obtain ⟨A2, c2, rfl, g1, g2, _⟩ := own_form hown2; have G2 : Hid ((w1.alloc (.cells #[.slice Au l.length cu] 26)).grownBy w2 (Value.slice Av k cv).ownBlock) := Lib.hid (by first | exact hg2 | exact gundrew hg2); have Y2 : Hid (w2.heap[w.heap.size + 1]? = some (.cells #[.int .i64 d.length, .int .i64 M, .slice Av k cv] 54)) := Lib.hid (gblk_ty G2.out ((own_next N1.out TOP.out).alloc _) (blk_alloc Y1.out _) ne_sl_st); have O2 : Hid (w2.ownsRow w.heap.size 26 1 (.slice A2 (k + 1) c2) (k + 1) (us ++ [.slice Au l.length cu])) := Lib.hid hown2; have f2 : w2.frozen? ⟨w.heap.size + 1, 2, none⟩ = false := blk_frozen Y2.out 2; have y3 : w2.cell? ⟨w.heap.size + 1, 2, none⟩ = some (.slice Av k cv) := blk_cell Y2.out 2 _ rfl; have X2 : Hid (w2.heap[w.heap.size]? = some (.cells #[.int .i64 0, .int .i64 0, .slice none 0 0] 54)) := Lib.hid (gblk_ty G2.out ((own_next N1.out TOP.out).alloc _) (blk_alloc (blk_next N1.out X.out) _) ne_sl_st); have N2 : Hid (Below w.heap.size w w2) := Lib.hid (gbel G2.out (Bal (Bgo N.out N1.out) _) (fun g hg => (TOP.out.lt g hg).1)); clear hown2 hg2 hat2)
     | (go_simp; go_at_call 63; refine (clone_calls Ai ci B l _ (by omega) ?_).mono ?_; (first | exact HB4.out | exact HB4.out.next (Below.refl _ _).drew); rintro e w1 ⟨u, rfl, hu, hb1⟩; obtain ⟨Au, cu, rfl, hu1, hu2, _⟩ := own_form hu; have U1 : Hid (OB wr.heap.size w1 (.slice Au l.length cu) l) := Lib.hid hu; have N1 : Hid (Below wr.heap.size wr w1) := Lib.hid (by first | exact hb1 | exact (Below.refl _ _).drew.trans hb1); have Y1 := Lib.hid (blk_next N1.out Y.out); have y4 : w1.cell? ⟨w.heap.size + 1, 2, none⟩ = some (.slice Av k cv) := blk_cell Y1.out 2 _ rfl; have hz1 : w.heap.size + 1 < w1.heap.size := blk_lt Y1.out; clear hu hb1))
   all_goals
    go_wp2_with fail
    have P2 : OMx w.heap.size w2 (.slice A2 (k + 1) c2) (us ++ [.slice Au l.length cu]) (d.take (k + 1)) := by
     rw [take_snoc' HL.out]
     exact OMx.push O.out (Bal N1.out _) (U1.out.alloc _) HB4.out.1 N.out.size (by rw [TL.out]; exact O2.out) G2.out
    have Y3 := blk_set Y2.out 2 (.slice A2 (k + 1) c2)
    refine ⟨⟨k + 1, .slice A2 (k + 1) c2, us ++ [.slice Au l.length cu], by omega, by go_num, Lib.hid ?_, Lib.hid ?_, Lib.hid ?_, Lib.hid ?_⟩, by simp [intOf]; omega⟩
    ·first | exact Bset1 N2.out (by omega) 2 _ | exact (Bset1 N2.out (by omega) 2 _).drew
    ·exact blk_set_other X2.out (by omega) 2 _
    ·exact Y3
    ·exact P2.set_ Y2.out ne_st_u8 ne_st_sl _
  ·obtain rfl : k = d.length := by omega
   have O1 : Hid (OMx w.heap.size wr v us (d ++ (List.range 0).map (par d))) := Lib.hid (by have := O.out; rw [List.take_of_length_le (Nat.le_refl _)] at this; simpa using this)
   obtain ⟨w0, rfl⟩ : ∃ w0 : World, w0 = wr := ⟨_, rfl⟩
   clear O hlt hk
   go_wp2_with fail
   go_loopw [8] (fun i wr => ∃ (k : Nat) (v : Value) (us : List Value), k ≤ M ∧ i = .int .i64 k ∧ Hid (Below w.heap.size w wr) ∧ Hid (wr.heap[w.heap.size]? = some (.cells #[.int .i64 0, .int .i64 0, .slice none 0 0] 54)) ∧ Hid (wr.heap[w.heap.size + 1]? = some (.cells #[.int .i64 d.length, .int .i64 M, v] 54)) ∧ Hid (OMx w.heap.size wr v us (d ++ (List.range k).map (par d)))) (fun i _ => M - (intOf i).toNat)
   case atStart => exact ⟨0, v, us, by omega, rfl, N, X, Y, O1⟩
   case round =>
    clear N X Y O1 v us
    obtain ⟨j, v, us, hj, rfl, N, X, Y, O⟩ := hrel
    by_cases hlt : j < M
    ·obtain ⟨b, off, Ai, ci, rfl, hb, h1, h2, h3, h4⟩ := (HS.out.next N.out).at_ hs0
     rw [hl0] at h1 h2
     have c0 : wr.cell? ⟨b, off, none⟩ = some (.slice Ai n ci) := by simpa using h1
     have mk := fun W => make_row W n (by omega)
     clear h4 h1
     have hz : w.heap.size + 1 < wr.heap.size := blk_lt Y.out
     obtain ⟨W1, rfl⟩ : ∃ W1 : World, W1 = wr := ⟨_, rfl⟩
     go_wp2_with fail
     have S0 : Hid ((W1.alloc (.cells (madeCells #[.int .u8 0] n) 5)).ownsRow W1.heap.size 5 1 (.slice (some ⟨W1.heap.size, 0, none⟩) n n) n (bv (parTo d j 0))) := Lib.hid (by
      have := made_own W1 n (by omega)
      rw [show parTo d j 0 = List.replicate n 0 by rw [parTo, getD_of hs0, hl0]]
      exact this)
     go_loopw [42] (fun i wr => ∃ (k : Nat), k ≤ d.length ∧ i = .int .i64 k ∧ Hid (Below W1.heap.size W1 wr) ∧ Hid (wr.ownsRow W1.heap.size 5 1 (.slice (some ⟨W1.heap.size, 0, none⟩) n n) n (bv (parTo d j k)))) (fun i _ => d.length - (intOf i).toNat)
     case atStart => exact ⟨0, by omega, rfl, Lib.hid (Bal (Below.refl _ _) _), S0⟩
     case round =>
      clear S0
      obtain ⟨k, hk, rfl, N1, S1⟩ := hrel
      have PL : Hid ((parTo d j k).length = n) := Lib.hid (by rw [parTo_len, getD_of hs0, hl0])
      by_cases hlt2 : k < d.length
      ·obtain ⟨l, hl⟩ := get_some hlt2
       have NN := Bgo N.out N1.out
       obtain ⟨b', off', Ai, ci, e', hb, h1, h2, h3, h4⟩ := HS.out.at_ hl
       injection e' with e'
       injection e' with e1 e2
       subst e1 e2
       have hln : l.length = n := HLEN.out l (List.mem_of_getElem? hl)
       rw [hln] at h1 h2
       have cl : wr.cell? ⟨b, off + k, none⟩ = some (.slice Ai n ci) := (NN.cell hb).trans h1
       have AC : Hid (Calls Try.prog 81 #[.slice (some ⟨W1.heap.size, 0, none⟩) n n, .slice Ai n ci, .int .u8 (fac d.length j k : Nat)] wr fun e w' => e = .returned (.tuple #[]) ∧ w'.ownsRow W1.heap.size 5 1 (.slice (some ⟨W1.heap.size, 0, none⟩) n n) n (bv (parTo d j (k + 1))) ∧ wr.grownBy w' (some W1.heap.size)) := Lib.hid (by
        have := add_calls W1.heap.size n W1.heap.size (parTo d j k) Ai ci B l (fac d.length j k) wr (fac_lt (by omega) (by omega)) (parTo_byt hd8 (by omega) k (by omega)) (by rw [PL.out, hln]; exact Nat.le_refl _) (by rw [PL.out]; exact S1.out) (by rw [hln]; exact h2) h3 (h4.next NN) (h4.ne_ N.out.size)
        rw [PL.out, hln] at this
        rw [parTo, getD_of hl]
        exact this)
       have hbr : b < wr.heap.size := Nat.lt_of_lt_of_le hb NN.size
       clear h1 h4 hl NN
       go_wp2_with fail
       refine (factor_calls d.length j k _ (by omega) (by omega)).mono ?_
       rintro e w' ⟨rfl, rfl⟩
       go_wp2_with fail
       refine AC.out.mono ?_
       rintro e w2 ⟨rfl, ho2, hg2⟩
       have S2 := Lib.hid ho2
       have N2 : Hid (Below W1.heap.size W1 w2) := Lib.hid (gbel hg2 N1.out (fun k hk => by cases hk; exact Nat.le_refl _))
       clear ho2 hg2
       go_wp2_with fail
       exact ⟨⟨k + 1, by omega, by go_num, N2, S2⟩, by simp [intOf]; omega⟩
      ·obtain rfl : k = d.length := by omega
       have y2 : wr.cell? ⟨w.heap.size + 1, 2, none⟩ = some v := blk_cell (blk_next N1.out Y.out) 2 _ rfl
       obtain ⟨Av, cv, rfl, hv1, hv2, _⟩ := own_form O.out.top
       have VL : Hid ((d ++ (List.range j).map (par d)).length = d.length + j) := Lib.hid (by simp)
       rw [VL.out] at y2 hv1
       have TOP : Hid (wr.ownsRow w.heap.size 26 1 (.slice Av (d.length + j) cv) (d.length + j) us) := Lib.hid (by have := own_next N1.out O.out.top; rw [VL.out] at this; exact this)
       have Y1 : Hid (wr.heap[w.heap.size + 1]? = some (.cells #[.int .i64 d.length, .int .i64 M, .slice Av (d.length + j) cv] 54)) := Lib.hid (by have := blk_next N1.out Y.out; rw [VL.out] at this; exact this)
       have hz1 : w.heap.size + 1 < wr.heap.size := blk_lt Y1.out
       go_wp2_with (at_builtin; refine wpList_append_rd _ rfl (.tmp 57) (.tmp 59) _ rfl w.heap.size 26 i0 (.slice none 0 0) 1 24 Try.underlying44 HI.out.1 HI.out.2.1 HI.out.2.2.1 HI.out.2.2.2 rfl (by decide) _ (d.length + j) us rfl (TOP.out.alloc _) (some ⟨wr.heap.size, 0, none⟩) 1 1 [.slice (some ⟨W1.heap.size, 0, none⟩) n n] rfl (rd_one (t := 26) (blk_new _ _)) (slice_one _ _ _) (by simp only [maxLen]; omega) (by omega) (by simp; omega) ?_; intro v2 w2 hown2 hg2 hat2; obtain ⟨A2, c2, rfl, g1, g2, _⟩ := own_form hown2; have G2 := Lib.hid hg2; have O2 := Lib.hid hown2; have Y2 : Hid (w2.heap[w.heap.size + 1]? = some (.cells #[.int .i64 d.length, .int .i64 M, .slice Av (d.length + j) cv] 54)) := Lib.hid (gblk_ty hg2 (TOP.out.alloc _) (blk_alloc Y1.out _) ne_sl_st); have X2 : Hid (w2.heap[w.heap.size]? = some (.cells #[.int .i64 0, .int .i64 0, .slice none 0 0] 54)) := Lib.hid (gblk_ty hg2 (TOP.out.alloc _) (blk_alloc (blk_next N1.out X.out) _) ne_sl_st); have N2 : Hid (Below w.heap.size w w2) := Lib.hid (gbel hg2 (Bal (Bgo N.out N1.out) _) (fun g hg => (TOP.out.lt g hg).1)); have f2 : w2.frozen? ⟨w.heap.size + 1, 2, none⟩ = false := blk_frozen Y2.out 2; have y3 : w2.cell? ⟨w.heap.size + 1, 2, none⟩ = some (.slice Av (d.length + j) cv) := blk_cell Y2.out 2 _ rfl; have hz2 : w.heap.size + 1 < w2.heap.size := blk_lt Y2.out; clear hown2 hg2 hat2)
       have P2 : OMx w.heap.size w2 (.slice A2 (d.length + j + 1) c2) (us ++ [.slice (some ⟨W1.heap.size, 0, none⟩) n n]) (d ++ (List.range (j + 1)).map (par d)) := by
        rw [List.range_succ, List.map_append, ← List.append_assoc]
        refine OMx.push O.out (Bal N1.out _) (l := par d j) ?_ (par_byt hd8 (by omega)) N.out.size (by rw [VL.out]; exact O2.out) (by rw [VL.out]; exact G2.out)
        have := S1.out.alloc (.cells #[.slice (some ⟨W1.heap.size, 0, none⟩) n n] 26)
        unfold OB
        rw [show (par d j).length = n from PL.out]
        exact this
       have Y3 := blk_set Y2.out 2 (.slice A2 (d.length + j + 1) c2)
       refine ⟨⟨j + 1, .slice A2 (d.length + j + 1) c2, us ++ [.slice (some ⟨W1.heap.size, 0, none⟩) n n], by omega, by go_num, Lib.hid ?_, Lib.hid ?_, Lib.hid ?_, Lib.hid ?_⟩, by simp [intOf]; omega⟩
       ·first | exact Bset1 N2.out (by omega) 2 _ | exact (Bset1 N2.out (by omega) 2 _).drew
       ·exact blk_set_other X2.out (by omega) 2 _
       ·exact Y3
       ·exact P2.set_ Y2.out ne_st_u8 ne_st_sl _
    ·obtain rfl : j = M := by omega
     obtain ⟨Av, cv, rfl, hv1, hv2, _⟩ := own_form O.out.top
     have y0 : wr.cell? ⟨w.heap.size + 1, 0, none⟩ = some (.int .i64 d.length) := blk_cell Y.out 0 _ rfl
     have y1 : wr.cell? ⟨w.heap.size + 1, 1, none⟩ = some (.int .i64 j) := blk_cell Y.out 1 _ rfl
     have y2 := blk_cell Y.out 2 _ rfl
     have x0 : wr.cell? ⟨w.heap.size, 0, none⟩ = some (.int .i64 0) := blk_cell X.out 0 _ rfl
     have x1 : wr.cell? ⟨w.heap.size, 1, none⟩ = some (.int .i64 0) := blk_cell X.out 1 _ rfl
     have x2 : wr.cell? ⟨w.heap.size, 2, none⟩ = some (.slice none 0 0) := blk_cell X.out 2 _ rfl
     have f0 : wr.frozen? ⟨w.heap.size, 0, none⟩ = false := blk_frozen X.out 0
     have f1 : wr.frozen? ⟨w.heap.size, 1, none⟩ = false := blk_frozen X.out 1
     have f2 : wr.frozen? ⟨w.heap.size, 2, none⟩ = false := blk_frozen X.out 2
     go_wp2_with fail
     have VL : (d ++ (List.range j).map (par d)).length = d.length + j := by simp
     have OF := O.out
     rw [VL] at OF
     have Z := blk_set3 X.out (.int .i64 (d.length : Int)) (.int .i64 (j : Int)) (.slice Av (d.length + j) cv)
     have e0 := blk_cell Z 0 _ rfl
     have e1 := blk_cell Z 1 _ rfl
     have e2 := blk_cell Z 2 _ rfl
     refine bodyPost_ret (v := Sv (d.length : Int) (j : Int) (.slice Av (d.length + j) cv)) (by simp [results, Try.results64, go_sem, e0, e1, e2]) rfl ⟨_, rfl, ⟨us, ?_⟩, ?_⟩
     ·exact OF.set3_ X.out _ _ _
     ·exact Bset3 N.out (Nat.le_refl _) _ _ _
end Go.Proofs.Ytapehckcmmompaa
namespace Go.Proofs.Ytapehckcmmompaa
open Go.ChangeShapes Go.WideShapes Go.ChangeAt Go.RowKit Gf
set_option linter.unusedVariables false
set_option maxRecDepth 100000
attribute [local go_sem ↓] Go.wp_at_zero Go.wp_at_succ
abbrev St := Int × Int × List (List Nat)
def SEPost (w : World) (s : St) (er : Int) (e : Ending) (w' : World) : Prop := ∃ v, e = .returned (.tuple #[Sv s.1 s.2.1 v, .int .i64 er]) ∧ OM w.heap.size w' v s.2.2 ∧ Below w.heap.size w w'
theorem SEPost.none_ {w w' : World} {er : Int} (h : Below w.heap.size w w') : SEPost w (0, 0, []) er (.returned (.tuple #[Sv 0 0 (.slice none 0 0), .int .i64 er])) w' := ⟨_, rfl, ⟨[], OMx.nil _ _⟩, h⟩
def allE (d : List (List Nat)) : Bool := d.all fun l => decide (l.length = (d.getD 0 []).length)
def encE (d : List (List Nat)) (M : Int) : Int :=
 if 8 < d.length ∨ 4 < M then 4 else if d.length < 1 ∨ M < 0 then 8 else if (d.getD 0 []).length < 1 ∨ 64 < (d.getD 0 []).length then 8 else if allE d then 0 else 8
def encS (d : List (List Nat)) (M : Int) : St := if encE d M = 0 then ((d.length : Int), M, enc d M.toNat) else (0, 0, [])
theorem encS_err {d : List (List Nat)} {M : Int} {er : Int} (h : encE d M = er) (h0 : er ≠ 0) : encS d M = (0, 0, []) := by unfold encS; rw [h, if_neg h0]
theorem encE_many {d : List (List Nat)} {M : Int} (h : 8 < d.length ∨ 4 < M) : encE d M = 4 := by unfold encE; rw [if_pos h]
theorem encE_few {d : List (List Nat)} {M : Int} (h : ¬ (8 < d.length ∨ 4 < M)) (h2 : d.length < 1 ∨ M < 0) : encE d M = 8 := by unfold encE; rw [if_neg h, if_pos h2]
theorem encE_size {d : List (List Nat)} {M : Int} (h : ¬ (8 < d.length ∨ 4 < M)) (h2 : ¬ (d.length < 1 ∨ M < 0)) (h3 : (d.getD 0 []).length < 1 ∨ 64 < (d.getD 0 []).length) : encE d M = 8 := by unfold encE; rw [if_neg h, if_neg h2, if_pos h3]
theorem encE_each {d : List (List Nat)} {M : Int} (h : ¬ (8 < d.length ∨ 4 < M)) (h2 : ¬ (d.length < 1 ∨ M < 0)) (h3 : ¬ ((d.getD 0 []).length < 1 ∨ 64 < (d.getD 0 []).length)) : encE d M = if allE d then 0 else 8 := by unfold encE; rw [if_neg h, if_neg h2, if_neg h3]
theorem allE_false {d : List (List Nat)} {k : Nat} {l : List Nat} (hk : d[k]? = some l) (h : l.length ≠ (d.getD 0 []).length) : allE d = false := by
 unfold allE
 rw [List.all_eq_false]
 exact ⟨l, List.mem_of_getElem? hk, by simpa using h⟩
theorem allE_true {d : List (List Nat)} (h : ∀ (j : Nat) (l : List Nat), d[j]? = some l → l.length = (d.getD 0 []).length) : allE d = true := by
 unfold allE
 rw [List.all_eq_true]
 intro l hl
 obtain ⟨j, hj, rfl⟩ := List.mem_iff_getElem.1 hl
 simpa using h j _ (List.getElem?_eq_getElem hj)
structure OkD (d : List (List Nat)) (n : Nat) : Prop where
 d1 : 1 ≤ d.length
 d8 : d.length ≤ 8
 n1 : 1 ≤ n
 n64 : n ≤ 64
 each : ∀ l ∈ d, l.length = n
set_option maxHeartbeats 2000000 in
theorem encode_calls (A : Option Addr) (c B : Nat) (d : List (List Nat)) (M : Int) (w : World) (hn : d.length ≤ c) (hc : c ≤ 9223372036854775807) (hs : RMA B w A d) :
  Calls Try.prog 46 #[.slice A d.length c, .int .i64 M] w (SEPost w (encS d M) (encE d M)) := by
 by_cases c1 : 8 < d.length ∨ 4 < M
 ·have F := Lib.hid (encE_many c1)
  rw [encS_err F.out (by decide), F.out]
  have c1' : 8 < d.length ∨ (d.length ≤ 8 ∧ 4 < M) := by omega
  clear hs c1
  rcases c1' with h | ⟨h, h'⟩
  all_goals
   go_enter Try.func46, Try.ntmps46
   go_wp2_with fail
   refine bodyPost_ret (v := .tuple #[Sv 0 0 (.slice none 0 0), .int .i64 4]) (by simp [results, Try.results46, go_sem]) rfl (SEPost.none_ ?_)
   repeat (first | exact Below.refl _ _ | refine Bal ?_ _ | refine Bset1 ?_ (by simp) _ _)
 by_cases c2 : d.length < 1 ∨ M < 0
 ·have F := Lib.hid (encE_few c1 c2)
  rw [encS_err F.out (by decide), F.out]
  have c2' : d.length < 1 ∨ (1 ≤ d.length ∧ M < 0) := by omega
  have c3 : d.length ≤ 8 := by omega
  have c4 : M ≤ 4 := by omega
  clear hs c1 c2
  rcases c2' with h | ⟨h, h'⟩
  all_goals
   go_enter Try.func46, Try.ntmps46
   go_wp2_with fail
   refine bodyPost_ret (v := .tuple #[Sv 0 0 (.slice none 0 0), .int .i64 8]) (by simp [results, Try.results46, go_sem]) rfl (SEPost.none_ ?_)
   repeat (first | exact Below.refl _ _ | refine Bal ?_ _ | refine Bset1 ?_ (by simp) _ _)
 obtain ⟨s0, hs0⟩ := get_some (show 0 < d.length by omega)
 have E0 : Hid (d.getD 0 [] = s0) := Lib.hid (getD_of hs0)
 obtain ⟨b, off, Ai, ci, rfl, hb, h1, h2, h3, h4⟩ := hs.at_ hs0
 have k0 : w.cell? ⟨b, off, none⟩ = some (.slice Ai s0.length ci) := by simpa using h1
 have c3 : d.length ≤ 8 := by omega
 have c4 : M ≤ 4 := by omega
 have c5 : 1 ≤ d.length := by omega
 have c6 : 0 ≤ M := by omega
 by_cases c7 : s0.length < 1 ∨ 64 < s0.length
 ·have F := Lib.hid (encE_size c1 c2 (by rw [E0.out]; exact c7))
  rw [encS_err F.out (by decide), F.out]
  have c7' : s0.length < 1 ∨ (1 ≤ s0.length ∧ 64 < s0.length) := by omega
  clear hs c1 c2 c7 hs0 h1 h4
  rcases c7' with h | ⟨h, h'⟩
  all_goals
   go_enter Try.func46, Try.ntmps46
   go_wp2_with fail
   refine bodyPost_ret (v := .tuple #[Sv 0 0 (.slice none 0 0), .int .i64 8]) (by simp [results, Try.results46, go_sem]) rfl (SEPost.none_ ?_)
   repeat (first | exact Below.refl _ _ | refine Bal ?_ _ | refine Bset1 ?_ (by simp) _ _)
 have F := Lib.hid (encE_each c1 c2 (by rw [E0.out]; exact c7))
 have c8 : 1 ≤ s0.length := by omega
 have c9 : s0.length ≤ 64 := by omega
 obtain ⟨M', rfl⟩ := Int.eq_ofNat_of_zero_le c6
 have HS := Lib.hid hs
 clear hs c1 c2 c7 h1 h4
 go_enter Try.func46, Try.ntmps46
 go_wp2_with fail
 go_loop [40] (fun i => ∃ k : Nat, k ≤ d.length ∧ i = .int .i64 k ∧ Hid (∀ (j : Nat) (l' : List Nat), j < k → d[j]? = some l' → l'.length = s0.length)) (fun i => d.length - (intOf i).toNat)
 case atStart => exact ⟨0, by omega, rfl, Lib.hid (fun j l' h => by omega)⟩
 case round =>
  obtain ⟨k, hk, rfl, HN⟩ := hrel
  by_cases hlt : k < d.length
  ·obtain ⟨l, hl⟩ := get_some hlt
   obtain ⟨b', off', Aj, cj, e', _, g1, g2, g3, _⟩ := HS.out.at_ hl
   injection e' with e'
   injection e' with e1 e2
   subst e1 e2
   have HL := Lib.hid hl
   clear hl
   by_cases h9 : l.length = s0.length
   ·have q2 : ((l.length : Int) != (s0.length : Int)) = false := by rw [h9]; simp
    have H9 := Lib.hid h9
    clear h9
    go_wp2_with fail
    refine ⟨⟨k + 1, by omega, by go_num, Lib.hid ?_⟩, by simp [intOf]; omega⟩
    intro j l' hj hl'
    by_cases e : j = k
    ·subst e; rw [HL.out] at hl'; cases hl'; exact H9.out
    ·exact HN.out j l' (by omega) hl'
   ·have q2 : ((l.length : Int) != (s0.length : Int)) = true := by rw [bne_iff_ne]; omega
    have H9 := Lib.hid h9
    clear h9
    go_wp2_with fail
    have FF := F.out
    rw [allE_false HL.out (by rw [E0.out]; exact H9.out)] at FF
    rw [encS_err FF (by decide), FF]
    refine bodyPost_ret (v := .tuple #[Sv 0 0 (.slice none 0 0), .int .i64 8]) (by simp [results, Try.results46, go_sem]) rfl (SEPost.none_ ?_)
    repeat (first | exact Below.refl _ _ | refine Bal ?_ _ | refine Bset1 ?_ (by simp) _ _)
  ·obtain rfl : k = d.length := by omega
   have EA : Hid (∀ l ∈ d, l.length = s0.length) := Lib.hid (fun l hl => by
    obtain ⟨j, hj, rfl⟩ := List.mem_iff_getElem.1 hl
    exact HN.out j _ hj (List.getElem?_eq_getElem hj))
   have FF : Hid (encE d (M' : Int) = 0) := Lib.hid (by
    have := F.out
    rw [allE_true (fun j l hl => by rw [E0.out]; exact HN.out j l (get_lt hl) hl)] at this
    exact this)
   have FS : Hid (encS d (M' : Int) = ((d.length : Int), (M' : Int), enc d M')) := Lib.hid (by unfold encS; rw [FF.out, if_pos rfl, Int.toNat_natCast])
   have X : Hid ((w.alloc (.cells #[.int .i64 0, .int .i64 0, .slice none 0 0] 54)).heap[w.heap.size]? = some (.cells #[.int .i64 0, .int .i64 0, .slice none 0 0] 54)) := Lib.hid (blk_new w _)
   clear F
   go_wp2_with fail
   refine (encoded_calls _ c B d M' s0.length _ hn hc (HS.out.next (Bal (Below.refl _ _) _)) (by omega) c3 (by omega) c9 EA.out).mono ?_
   rintro e w1 ⟨v, rfl, ⟨us, ho⟩, hb1⟩
   obtain ⟨Av, cv, rfl, hv1, hv2, _⟩ := own_form ho.top
   have X1 := Lib.hid (blk_next hb1 X.out)
   have N1 := Lib.hid (Bgo (Bal (Below.refl w.heap.size w) _) hb1)
   have O1 := Lib.hid (ho.mono (B' := w.heap.size) (by simp))
   have x0 : w1.cell? ⟨w.heap.size, 0, none⟩ = some (.int .i64 0) := blk_cell X1.out 0 _ rfl
   have x1 : w1.cell? ⟨w.heap.size, 1, none⟩ = some (.int .i64 0) := blk_cell X1.out 1 _ rfl
   have x2 : w1.cell? ⟨w.heap.size, 2, none⟩ = some (.slice none 0 0) := blk_cell X1.out 2 _ rfl
   have f0 : w1.frozen? ⟨w.heap.size, 0, none⟩ = false := blk_frozen X1.out 0
   have f1 : w1.frozen? ⟨w.heap.size, 1, none⟩ = false := blk_frozen X1.out 1
   have f2 : w1.frozen? ⟨w.heap.size, 2, none⟩ = false := blk_frozen X1.out 2
   clear hb1 ho
   go_wp2_with fail
   have Z := blk_set3 X1.out (.int .i64 (d.length : Int)) (.int .i64 (M' : Int)) (.slice Av (enc d M').length cv)
   have e0 := blk_cell Z 0 _ rfl
   have e1 := blk_cell Z 1 _ rfl
   have e2 := blk_cell Z 2 _ rfl
   rw [FS.out, FF.out]
   refine bodyPost_ret (v := .tuple #[Sv (d.length : Int) (M' : Int) (.slice Av (enc d M').length cv), .int .i64 0]) (by simp [results, Try.results46, go_sem, e0, e1, e2]) rfl ⟨_, rfl, ⟨us, ?_⟩, ?_⟩
   ·exact O1.out.set3_ X1.out _ _ _
   ·exact Bset3 N1.out (Nat.le_refl _) _ _ _
end Go.Proofs.Ytapehckcmmompaa
namespace Go.Proofs.Ytapehckcmmompaa
open Go.ChangeShapes Go.WideShapes Go.ChangeAt Go.RowKit Gf
set_option linter.unusedVariables false
set_option maxRecDepth 100000
attribute [local go_sem ↓] Go.wp_at_zero Go.wp_at_succ
theorem int_one (k : IntKind) (x : Int) : ∀ u ∈ [Value.int k x], u.oneCell' = true := by
 intro u hu; simp at hu; subst hu; rfl
theorem mul_still (a b : Nat) (ha : a < 256) (hb : b < 256) (w : World) : Calls Try.prog 88 #[.int .u8 a, .int .u8 b] w fun e w' => e = .returned (.int .u8 (gm a b : Nat)) ∧ w' = w := (mul_calls a b ha hb w).mono fun _ _ ⟨h1, h2⟩ => ⟨h1, h2.symm⟩
end Go.Proofs.Ytapehckcmmompaa
namespace Go.Proofs.Ytapehckcmmompaa
open Go.ChangeShapes Go.WideShapes Go.ChangeAt Go.RowKit Gf
set_option linter.unusedVariables false
set_option maxRecDepth 100000
attribute [local go_sem ↓] Go.wp_at_zero Go.wp_at_succ
theorem own_empty {w : World} {g base : Nat} {e : TypeId} (h : w.heap[g]? = some (.cells #[] e)) (hb : base ≤ g) : w.ownsRow base e 1 (.slice (some ⟨g, 0, none⟩) 0 0) 0 [] :=
 ⟨rfl, .inr ⟨g, 0, #[], rfl, hb, h, Nat.le_refl _, by simp [maxLen], rfl, rfl⟩⟩
theorem gfresh {w w1 : World} {o : Obj} {n c : Nat} (hg : (w.alloc o).grownBy w1 (Value.slice (some ⟨w.heap.size, 0, none⟩) n c).ownBlock) : Below w.heap.size w w1 :=
 (Bal (Below.refl w.heap.size w) o).grown hg (by simp) (fun q hq => by cases hq; exact Nat.le_refl _)
end Go.Proofs.Ytapehckcmmompaa
namespace Go.Proofs.Ytapehckcmmompaa
open Go.ChangeShapes Go.WideShapes Go.ChangeAt Go.RowKit Gf
set_option linter.unusedVariables false
set_option maxRecDepth 100000
attribute [local go_sem ↓] Go.wp_at_zero Go.wp_at_succ
theorem RBA.drewN {B : Nat} {w : World} {A : Option Addr} {l : List Nat} (h : RBA B w A l) (n : Nat) : RBA B (w.drewN n) A l := h
end Go.Proofs.Ytapehckcmmompaa
