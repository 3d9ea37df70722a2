/- Several texts in one. -/
import Derived.Test.YtapehckcmmompaaM11
namespace Go.Proofs.Ytapehckcmmompaa
open Go.ChangeShapes Go.WideShapes Go.ChangeAt Go.RowKit
set_option linter.unusedVariables false
set_option maxRecDepth 100000
attribute [local go_sem ↓] Go.wp_at_zero Go.wp_at_succ
theorem ne_she_u8 : (79 : TypeId) ≠ 5 := by decide
theorem ne_she_sl : (79 : TypeId) ≠ 26 := by decide
theorem ne_she_dk : (79 : TypeId) ≠ 46 := by decide
theorem ne_she_ob : (79 : TypeId) ≠ 50 := by decide
theorem ne_ob_she : (50 : TypeId) ≠ 79 := by decide
theorem ne_dk_she : (46 : TypeId) ≠ 79 := by decide
theorem ne_sl_she : (26 : TypeId) ≠ 79 := by decide
abbrev set6 (w : World) (g : Nat) (x y z u s t : Value) : World := ((set4 w g x y z u).setCell ⟨g, 4, none⟩ s).setCell ⟨g, 5, none⟩ t
theorem blk_set6 {w : World} {g : Nat} {a b c d e f : Value} {ty : TypeId} (h : w.heap[g]? = some (.cells #[a, b, c, d, e, f] ty)) (x y z u s t : Value) : (set6 w g x y z u s t).heap[g]? = some (.cells #[x, y, z, u, s, t] ty) :=
 blk_set (blk_set (blk_set (blk_set (blk_set (blk_set h 0 x) 1 y) 2 z) 3 u) 4 s) 5 t
theorem Bset6 {w W : World} (h : Below w.heap.size w W) {g : Nat} (hg : w.heap.size ≤ g) (x y z u s t : Value) : Below w.heap.size w (set6 W g x y z u s t) := Bset1 (Bset1 (Bset4 h hg x y z u) hg 4 s) hg 5 t
theorem OS.set6_ {B : Nat} {w : World} {v : Value} {hs : List Value} {us : List (List Value)} {ds : List Dk} (h : OS B w v hs us ds) {g : Nat} {cs : Array Value} (hg : w.heap[g]? = some (.cells cs 79)) (x y z u s t : Value) : OS B (set6 w g x y z u s t) v hs us ds :=
 (((((h.set_ hg ne_she_u8 ne_she_sl ne_she_dk x).set_ (blk_set hg 0 x) ne_she_u8 ne_she_sl ne_she_dk y).set_ (blk_set (blk_set hg 0 x) 1 y) ne_she_u8 ne_she_sl ne_she_dk z).set_ (blk_set (blk_set (blk_set hg 0 x) 1 y) 2 z) ne_she_u8 ne_she_sl ne_she_dk u).set_ (blk_set (blk_set (blk_set (blk_set hg 0 x) 1 y) 2 z) 3 u) ne_she_u8 ne_she_sl ne_she_dk s).set_ (blk_set (blk_set (blk_set (blk_set (blk_set hg 0 x) 1 y) 2 z) 3 u) 4 s) ne_she_u8 ne_she_sl ne_she_dk t
theorem OO.set6_ {B : Nat} {w : World} {v : Value} {os : List Ob} (h : OO B w v os) {g : Nat} {cs : Array Value} (hg : w.heap[g]? = some (.cells cs 79)) (x y z u s t : Value) : OO B (set6 w g x y z u s t) v os :=
 (((((h.set_ hg ne_she_ob x).set_ (blk_set hg 0 x) ne_she_ob y).set_ (blk_set (blk_set hg 0 x) 1 y) ne_she_ob z).set_ (blk_set (blk_set (blk_set hg 0 x) 1 y) 2 z) ne_she_ob u).set_ (blk_set (blk_set (blk_set (blk_set hg 0 x) 1 y) 2 z) 3 u) ne_she_ob s).set_ (blk_set (blk_set (blk_set (blk_set (blk_set hg 0 x) 1 y) 2 z) 3 u) 4 s) ne_she_ob t
theorem OT.set6_ {B : Nat} {w : World} {v : Value} {ds : List Dk} (h : OT B w v ds) {g : Nat} {cs : Array Value} (hg : w.heap[g]? = some (.cells cs 79)) (x y z u s t : Value) : OT B (set6 w g x y z u s t) v ds := by
 obtain ⟨hs, us, h⟩ := h
 exact ⟨hs, us, h.set6_ hg x y z u s t⟩
theorem OS.push2 {B : Nat} {W0 W W' : World} {v v' x : Value} {hs : List Value} {us : List (List Value)} {ds : List Dk} {d : Dk} {u : List Value} (h : OS B W0 v hs us ds) (hw : OS B W v hs us ds) (hx : OMx W0.heap.size W x u d.blocks) (hB : B ≤ W0.heap.size)
  (hown : W'.ownsRow B 46 2 v' (ds.length + 1) (flatD ds hs ++ [.bool d.failed, x])) (hg : W.grownBy W' v.ownBlock) : OS B W' v' (hs ++ [x]) (us ++ [u]) (ds ++ [d]) := by
 have ht := hw.top
 have old : ∀ {i : Nat} {y : Value}, hs[i]? = some y → ∃ d u, ds[i]? = some d ∧ us[i]? = some u ∧ OMx B W0 y u d.blocks := fun {i y} hy => by
  obtain ⟨d, hd⟩ := get_some (show i < ds.length by rw [← h.lenH]; exact get_lt hy)
  obtain ⟨u, hu⟩ := get_some (show i < us.length by rw [h.lenU]; exact get_lt hd)
  exact ⟨d, u, hd, hu, h.row i d y u hd hy hu⟩
 have oldu : ∀ {i : Nat} {q : List Value}, us[i]? = some q → ∃ (d : Dk) (y : Value), OMx B W0 y q d.blocks := fun {i q} hq => by
  obtain ⟨y, hy⟩ := get_some (show i < hs.length by rw [h.lenH, ← h.lenU]; exact get_lt hq)
  obtain ⟨d, u', hd, hu, ho⟩ := old hy
  rw [hq] at hu; cases hu
  exact ⟨d, y, ho⟩
 refine ⟨by rw [flatD_push d x h.lenH]; simpa using hown, by simp [h.lenH], by simp [h.lenU], fun i e y q he hy hq => ?_, fun i j y y' hij hy hy' => ?_, fun i j k l q q' y y' hij hq hq' hy hy' => ?_⟩
 ·rcases get_append_one he with h1 | ⟨h1, rfl⟩
  ·rcases get_append_one hy with h2 | ⟨h2, rfl⟩
   ·rcases get_append_one hq with h3 | ⟨h3, rfl⟩
    ·exact (hw.row i e y q h1 h2 h3).kept ht ne_dk_u8 ne_dk_sl hg
    ·have := get_lt h1; rw [h.lenU] at h3; omega
   ·have := get_lt h1; rw [h.lenH] at h2; omega
  ·rcases get_append_one hy with h2 | ⟨h2, rfl⟩
   ·have := get_lt h2; rw [h.lenH] at this; omega
   ·rcases get_append_one hq with h3 | ⟨h3, rfl⟩
    ·have := get_lt h3; rw [h.lenU] at this; omega
    ·exact (hx.kept ht ne_dk_u8 ne_dk_sl hg).mono hB
 ·rcases get_append_one hy with h1 | ⟨h1, rfl⟩
  ·rcases get_append_one hy' with h2 | ⟨h2, rfl⟩
   ·exact h.tops i j y y' hij h1 h2
   ·cases e : y.ownBlock with
    | none => exact .inl rfl
    | some g =>
     refine .inr fun e' => ?_
     obtain ⟨_, _, _, _, ho⟩ := old h1
     have := (ho.lt_top e).2
     have := (hx.lt_top e'.symm).1
     omega
  ·rcases get_append_one hy' with h2 | ⟨h2, rfl⟩
   ·cases e : y.ownBlock with
    | none => exact .inl rfl
    | some g =>
     refine .inr fun e' => ?_
     obtain ⟨_, _, _, _, ho⟩ := old h2
     have := (ho.lt_top e'.symm).2
     have := (hx.lt_top e).1
     omega
   ·omega
 ·rcases get_append_one hq with h1 | ⟨h1, rfl⟩
  ·rcases get_append_one hq' with h2 | ⟨h2, rfl⟩
   ·exact h.rows i j k l q q' y y' hij h1 h2 hy hy'
   ·cases e : y.ownBlock with
    | none => exact .inl rfl
    | some g =>
     refine .inr fun e' => ?_
     obtain ⟨_, _, ho⟩ := oldu h1
     have := (ho.lt_row hy e).2
     have := (hx.lt_row hy' e'.symm).1
     omega
  ·rcases get_append_one hq' with h2 | ⟨h2, rfl⟩
   ·cases e : y.ownBlock with
    | none => exact .inl rfl
    | some g =>
     refine .inr fun e' => ?_
     obtain ⟨_, _, ho⟩ := oldu h2
     have := (ho.lt_row hy' e'.symm).2
     have := (hx.lt_row hy e).1
     omega
   ·omega
structure OkS (d p : Int) (ds : List Dk) (os : List Ob) : Prop where
 d1 : 1 ≤ d
 d8 : d ≤ 8
 p0 : 0 ≤ p
 p4 : p ≤ 4
 len : (ds.length : Int) = d + p
 n16 : os.length ≤ 16
 des : desB d os = true
 sm : smO os
 gone : 0 < strN os → faN ds ≠ ds.length
 dk : ∀ k ∈ ds, dkB (strN os) k = true
theorem chS_ok {d p : Int} {ds : List Dk} {os : List Ob} (h : chS d p ds os = 0) : OkS d p ds os := by
 unfold chS at h
 split at h
 ·omega
 ·split at h
  ·rename_i h1 h2
   split at h
   ·rename_i h3
    exact ⟨h2.1, h2.2.1, h2.2.2.1, h2.2.2.2.1, h2.2.2.2.2, by omega, h3.1, des_sm h2.1 h2.2.1 h3.1, h3.2.1, h3.2.2⟩
   ·omega
  ·omega
theorem OkS.str {d p : Int} {ds : List Dk} {os : List Ob} (h : OkS d p ds os) : 0 ≤ strN os ∧ strN os ≤ 640 := by
 have := strN_bd h.sm
 have := h.n16
 omega
theorem OkS.dkl {d p : Int} {ds : List Dk} {os : List Ob} (h : OkS d p ds os) {k : Dk} (hk : k ∈ ds) : (k.failed = true → k.blocks = []) ∧ (k.failed = false → (k.blocks.length : Int) = strN os ∧ ∀ b ∈ k.blocks, b.length = 8) := by
 have := h.dk k hk
 refine ⟨fun hf => dk_failed hf this, fun hf => ?_⟩
 unfold dkB at this
 rw [hf] at this
 simp only [Bool.false_eq_true, if_false, Bool.and_eq_true, beq_iff_eq, List.all_eq_true, decide_eq_true_eq] at this
 exact this
theorem OkS.bd {d p : Int} {ds : List Dk} {os : List Ob} (h : OkS d p ds os) {k : Dk} (hk : k ∈ ds) : k.blocks.length ≤ 640 ∧ ∀ b ∈ k.blocks, b.length ≤ 8 := by
 have h1 := h.dkl hk
 have h2 := h.str
 cases e : k.failed with
 | true => rw [h1.1 e]; simp
 | false => exact ⟨by have := (h1.2 e).1; omega, fun b hb => Nat.le_of_eq ((h1.2 e).2 b hb)⟩
abbrev Hv (d p : Int) (v u : Value) (st fa : Int) : Value := .agg #[.int .i64 d, .int .i64 p, v, u, .int .i64 st, .int .i64 fa]
def OpPost (w : World) (s : So) (st fa er : Int) (e : Ending) (w' : World) : Prop := ∃ v u, e = .returned (.tuple #[Hv s.1 s.2.1 v u st fa, .int .i64 er]) ∧ OT w.heap.size w' v s.2.2.1 ∧ OO w.heap.size w' u s.2.2.2 ∧ Below w.heap.size w w'
theorem faN_upto {ds : List Dk} {k : Nat} {d : Dk} (h : ds[k]? = some d) (x : Nat) (hx : x = faN (ds.take k)) : (if d.failed then x + 1 else x) = faN (ds.take (k + 1)) := by
 rw [faN_take h, hx]; split <;> rfl
set_option maxHeartbeats 16000000 in
theorem open_bad (d p : Int) (D A : Option Addr) (cd ca B : Nat) (ds : List Dk) (os : List Ob) (w : World) (hnd : ds.length ≤ cd) (hcd : cd ≤ 9223372036854775807) (hna : os.length ≤ ca) (hca : ca ≤ 9223372036854775807) (hd : RD B w D ds) (hs : RO B w A os) (hl : ∀ o ∈ os, Lh o.name) (ck : chS d p ds os ≠ 0) :
  Calls Try.prog 42 #[Tv d p (.slice D ds.length cd) (.slice A os.length ca)] w (OpPost w noS 0 0 (chS d p ds os)) := by
 have CK := Lib.hid (fun W (h1 : RD B W D ds) (h2 : RO B W A os) => oCheck_calls d p D A cd ca B ds os W hnd hcd hna hca h1 h2 hl)
 have HD := Lib.hid hd
 have HS := Lib.hid hs
 clear hd hs
 go_enter Try.func42, Try.ntmps42
 go_wp2_with fail
 have SB : Hid (((w.alloc (.cells #[.int .i64 d, .int .i64 p, .slice D ds.length cd, .slice A os.length ca] 25)).alloc (.cells #[.int .i64 0, .int .i64 0, .slice none 0 0, .slice none 0 0, .int .i64 0, .int .i64 0] 79)).heap[w.heap.size]? = some (.cells #[.int .i64 d, .int .i64 p, .slice D ds.length cd, .slice A os.length ca] 25)) := Lib.hid (blk_alloc (blk_new w _) _)
 have RB : Hid (((w.alloc (.cells #[.int .i64 d, .int .i64 p, .slice D ds.length cd, .slice A os.length ca] 25)).alloc (.cells #[.int .i64 0, .int .i64 0, .slice none 0 0, .slice none 0 0, .int .i64 0, .int .i64 0] 79)).heap[w.heap.size + 1]? = some (.cells #[.int .i64 0, .int .i64 0, .slice none 0 0, .slice none 0 0, .int .i64 0, .int .i64 0] 79)) := Lib.hid (blk_at _ (by simp))
 have NN : Hid (Below w.heap.size w ((w.alloc (.cells #[.int .i64 d, .int .i64 p, .slice D ds.length cd, .slice A os.length ca] 25)).alloc (.cells #[.int .i64 0, .int .i64 0, .slice none 0 0, .slice none 0 0, .int .i64 0, .int .i64 0] 79))) := Lib.hid (Bal (Bal (Below.refl _ _) _) _)
 generalize ((w.alloc (.cells #[.int .i64 d, .int .i64 p, .slice D ds.length cd, .slice A os.length ca] 25)).alloc (.cells #[.int .i64 0, .int .i64 0, .slice none 0 0, .slice none 0 0, .int .i64 0, .int .i64 0] 79)) = W0 at *
 refine (CK.out _ (HD.out.next NN.out) (HS.out.next NN.out)).mono ?_
 rintro e w1 ⟨rfl, hb⟩
 replace SB := Lib.hid (blk_next hb SB.out)
 replace RB := Lib.hid (blk_next hb RB.out)
 replace NN := Lib.hid (Bgo NN.out hb)
 clear hb CK
 have ck2 : (chS d p ds os != 0) = true := by rw [bne_iff_ne]; exact ck
 generalize chS d p ds os = er at *
 have x0 := blk_cell RB.out 0 _ rfl
 have fx0 := blk_frozen RB.out 0
 have x1 := blk_cell RB.out 1 _ rfl
 have fx1 := blk_frozen RB.out 1
 have x2 := blk_cell RB.out 2 _ rfl
 have fx2 := blk_frozen RB.out 2
 have x3 := blk_cell RB.out 3 _ rfl
 have fx3 := blk_frozen RB.out 3
 have x4 := blk_cell RB.out 4 _ rfl
 have fx4 := blk_frozen RB.out 4
 have x5 := blk_cell RB.out 5 _ rfl
 have fx5 := blk_frozen RB.out 5
 go_wp2_with fail
 have Z := blk_set6 RB.out (.int .i64 0) (.int .i64 0) (.slice none 0 0) (.slice none 0 0) (.int .i64 0) (.int .i64 0)
 have e0 := blk_cell Z 0 _ rfl
 have e1 := blk_cell Z 1 _ rfl
 have e2 := blk_cell Z 2 _ rfl
 have e3 := blk_cell Z 3 _ rfl
 have e4 := blk_cell Z 4 _ rfl
 have e5 := blk_cell Z 5 _ rfl
 exact bodyPost_ret (v := .tuple #[Hv 0 0 (.slice none 0 0) (.slice none 0 0) 0 0, .int .i64 er]) (by simp [results, Try.results42, go_sem, e0, e1, e2, e3, e4, e5]) rfl ⟨_, _, rfl, OT.nil _ _, OO.nil _ _, Bset6 NN.out (by omega) _ _ _ _ _ _⟩
set_option maxHeartbeats 16000000 in
theorem open_ok (d p : Int) (D A : Option Addr) (cd ca B : Nat) (ds : List Dk) (os : List Ob) (w : World) (hnd : ds.length ≤ cd) (hcd : cd ≤ 9223372036854775807) (hna : os.length ≤ ca) (hca : ca ≤ 9223372036854775807) (hd : RD B w D ds) (hs : RO B w A os) (hl : ∀ o ∈ os, Lh o.name) (ck : chS d p ds os = 0) :
  Calls Try.prog 42 #[Tv d p (.slice D ds.length cd) (.slice A os.length ca)] w (OpPost w (d, p, ds, os) (strN os) (faN ds) 0) := by
 obtain ⟨i0, hi0, hz0, hz1, hz2⟩ := info_parts sl_info
 have HI := Lib.hid (And.intro hi0 (And.intro hz0 (And.intro hz1 hz2)))
 obtain ⟨j0, hj0, hy0, hy1, hy2⟩ := info_parts u8_info
 have HJ := Lib.hid (And.intro hj0 (And.intro hy0 (And.intro hy1 hy2)))
 obtain ⟨k0, hk0, hx0, hx1, hx2⟩ := info_parts infoOb
 have HK := Lib.hid (And.intro hk0 (And.intro hx0 (And.intro hx1 hx2)))
 obtain ⟨m0, hm0, hv0, hv1, hv2⟩ := info_parts infoDk
 have HM0 := Lib.hid (And.intro hm0 (And.intro hv0 (And.intro hv1 hv2)))
 clear hi0 hz0 hz1 hz2 hj0 hy0 hy1 hy2 hk0 hx0 hx1 hx2 hm0 hv0 hv1 hv2
 have OK := Lib.hid (chS_ok ck)
 have n16 := OK.out.n16
 have n20 : ds.length ≤ 12 := by have := OK.out.len; have := OK.out.d8; have := OK.out.p4; omega
 have CK := Lib.hid (fun W (h1 : RD B W D ds) (h2 : RO B W A os) => oCheck_calls d p D A cd ca B ds os W hnd hcd hna hca h1 h2 hl)
 have HD := Lib.hid hd
 have HS := Lib.hid hs
 clear hd hs
 go_enter Try.func42, Try.ntmps42
 go_wp2_with fail
 have SB : Hid (((w.alloc (.cells #[.int .i64 d, .int .i64 p, .slice D ds.length cd, .slice A os.length ca] 25)).alloc (.cells #[.int .i64 0, .int .i64 0, .slice none 0 0, .slice none 0 0, .int .i64 0, .int .i64 0] 79)).heap[w.heap.size]? = some (.cells #[.int .i64 d, .int .i64 p, .slice D ds.length cd, .slice A os.length ca] 25)) := Lib.hid (blk_alloc (blk_new w _) _)
 have RB : Hid (((w.alloc (.cells #[.int .i64 d, .int .i64 p, .slice D ds.length cd, .slice A os.length ca] 25)).alloc (.cells #[.int .i64 0, .int .i64 0, .slice none 0 0, .slice none 0 0, .int .i64 0, .int .i64 0] 79)).heap[w.heap.size + 1]? = some (.cells #[.int .i64 0, .int .i64 0, .slice none 0 0, .slice none 0 0, .int .i64 0, .int .i64 0] 79)) := Lib.hid (blk_at _ (by simp))
 have NN : Hid (Below w.heap.size w ((w.alloc (.cells #[.int .i64 d, .int .i64 p, .slice D ds.length cd, .slice A os.length ca] 25)).alloc (.cells #[.int .i64 0, .int .i64 0, .slice none 0 0, .slice none 0 0, .int .i64 0, .int .i64 0] 79))) := Lib.hid (Bal (Bal (Below.refl _ _) _) _)
 generalize ((w.alloc (.cells #[.int .i64 d, .int .i64 p, .slice D ds.length cd, .slice A os.length ca] 25)).alloc (.cells #[.int .i64 0, .int .i64 0, .slice none 0 0, .slice none 0 0, .int .i64 0, .int .i64 0] 79)) = W0 at *
 refine (CK.out _ (HD.out.next NN.out) (HS.out.next NN.out)).mono ?_
 rintro e w1 ⟨rfl, hb⟩
 replace SB := Lib.hid (blk_next hb SB.out)
 replace RB := Lib.hid (blk_next hb RB.out)
 replace NN := Lib.hid (Bgo NN.out hb)
 clear hb CK
 rw [ck]
 clear ck hl
 have s0 := blk_cell SB.out 0 _ rfl
 have s1 := blk_cell SB.out 1 _ rfl
 have s2 := blk_cell SB.out 2 _ rfl
 have s3 := blk_cell SB.out 3 _ rfl
 have hz := blk_lt RB.out
 have hz' := blk_lt SB.out
 go_wp2_with fail
 have HB0 : Hid ((w1.alloc (.cells #[.int .i64 d, .int .i64 p, .slice none 0 0, .slice none 0 0, .int .i64 0, .int .i64 0] 79)).heap[w1.heap.size]? = some (.cells #[.int .i64 d, .int .i64 p, .slice none 0 0, .slice none 0 0, .int .i64 0, .int .i64 0] 79)) := Lib.hid (blk_new _ _)
 have B9 : Below w1.heap.size w1 (w1.alloc (.cells #[.int .i64 d, .int .i64 p, .slice none 0 0, .slice none 0 0, .int .i64 0, .int .i64 0] 79)) := Bal (Below.refl _ _) _
 replace SB := Lib.hid (blk_next B9 SB.out)
 replace RB := Lib.hid (blk_next B9 RB.out)
 replace NN := Lib.hid (Bgo NN.out B9)
 clear s0 s1 s2 s3 B9
 generalize (w1.alloc (.cells #[.int .i64 d, .int .i64 p, .slice none 0 0, .slice none 0 0, .int .i64 0, .int .i64 0] 79)) = W1 at *
 generalize w1.heap.size = hb at *
 go_loopw [27] (fun i wr => ∃ (k : Nat) (u : Value) (t : Int), k ≤ os.length ∧ i = .int .i64 k ∧ 0 ≤ t ∧ t ≤ 40 * k ∧ Hid (t = strN (os.take k)) ∧ Hid (Below w.heap.size w wr) ∧ Hid (wr.heap[w.heap.size]? = some (.cells #[.int .i64 d, .int .i64 p, .slice D ds.length cd, .slice A os.length ca] 25)) ∧ Hid (wr.heap[w.heap.size + 1]? = some (.cells #[.int .i64 0, .int .i64 0, .slice none 0 0, .slice none 0 0, .int .i64 0, .int .i64 0] 79)) ∧ Hid (wr.heap[hb]? = some (.cells #[.int .i64 d, .int .i64 p, .slice none 0 0, u, .int .i64 t, .int .i64 0] 79)) ∧ Hid (OO w.heap.size wr u (os.take k))) (fun i _ => os.length - (intOf i).toNat)
 case atStart => exact ⟨0, _, 0, by omega, rfl, by omega, by omega, Lib.hid (by simp [strN]), NN, SB, RB, HB0, Lib.hid (by rw [List.take_zero]; exact OO.nil _ _)⟩
 case round =>
  clear NN SB RB HB0
  obtain ⟨k, u, t, hk, rfl, t0, t9, TS, NN, SB, RB, HB, U⟩ := hrel
  have hzr := blk_lt RB.out
  have hzh := blk_lt HB.out
  by_cases hlt : k < os.length
  ·obtain ⟨ob, ho⟩ := get_some hlt
   obtain ⟨b, off, rfl, hb9, c0, c1, c2, c3, c4⟩ := (HS.out.next NN.out).at_ ho
   have TN := Lib.hid (strN_take ho)
   have MB := OK.out.sm ob (List.mem_of_getElem? ho)
   have HO := Lib.hid ho
   have TL : Hid ((os.take k).length = k) := Lib.hid (by rw [List.length_take]; omega)
   obtain ⟨Av, cv, hv, hv1, hv2⟩ := U.out.form
   rw [TL.out] at hv hv1
   subst hv
   have TOP : Hid (wr.ownsRow w.heap.size 50 5 (.slice Av k cv) k (flatO (os.take k))) := Lib.hid (by have := U.out; unfold OO at this; rw [TL.out] at this; exact this)
   have k1 : (0 : Int) ≤ (k : Int) := by omega
   have k2 : (k : Int) < (os.length : Int) := by omega
   have h3 := blk_cell HB.out 3 _ rfl
   clear ho
   go_wp2_with (at_builtin; refine wpList_append_rd _ rfl _ _ 23 rfl w.heap.size 50 k0 zO 5 48 Try.underlying23 HK.out.1 HK.out.2.1 HK.out.2.2.1 HK.out.2.2.2 rfl (by decide) _ k (flatO (os.take k)) rfl ((TOP.out.alloc _).alloc _) (some ⟨wr.heap.size + 1, 0, none⟩) 1 1 (obL ob) rfl (rd_ob (blk_at _ (by simp))) (obj_one ob) (by simp only [maxLen]; omega) (by omega) (by have q := NN.out.size; simp; omega) ?_; intro v2 w2 hown2 hg2 hat2; obtain ⟨A2, c2, rfl, g1, g2⟩ := own_form2 hown2; have G2 := Lib.hid hg2; have O2 := Lib.hid hown2; have HB2 : Hid (w2.heap[hb]? = some (.cells #[.int .i64 d, .int .i64 p, .slice none 0 0, .slice Av k cv, .int .i64 t, .int .i64 0] 79)) := Lib.hid (gblk_ty G2.out ((TOP.out.alloc _).alloc _) (blk_alloc (blk_alloc HB.out _) _) ne_ob_she); have TB2 : Hid (w2.heap[wr.heap.size]? = some (.cells #[.string ob.name, .int .i64 ob.size, .int .i64 ob.from_, .int .i64 ob.many, .int .i64 ob.dig] 50)) := Lib.hid (gblk G2.out (blk_alloc (blk_new _ _) _) (fun h => by have := (TOP.out.lt _ h.symm).2; omega)); have x3 := blk_cell HB2.out 3 _ rfl; have fx3 := blk_frozen HB2.out 3; have x4 := blk_cell HB2.out 4 _ rfl; have fx4 := blk_frozen HB2.out 4; have t3 := blk_cell TB2.out 3 _ rfl; have hz2 := blk_lt HB2.out; have hz3 := blk_lt TB2.out; clear hown2 hg2 hat2)
   have SB2 : Hid (w2.heap[w.heap.size]? = some (.cells #[.int .i64 d, .int .i64 p, .slice D ds.length cd, .slice (some ⟨b, off, none⟩) os.length ca] 25)) := Lib.hid (gblk_ty G2.out ((TOP.out.alloc _).alloc _) (blk_alloc (blk_alloc SB.out _) _) ne_ob_sto)
   have RB2 : Hid (w2.heap[w.heap.size + 1]? = some (.cells #[.int .i64 0, .int .i64 0, .slice none 0 0, .slice none 0 0, .int .i64 0, .int .i64 0] 79)) := Lib.hid (gblk_ty G2.out ((TOP.out.alloc _).alloc _) (blk_alloc (blk_alloc RB.out _) _) ne_ob_she)
   have N2 : Hid (Below w.heap.size w w2) := Lib.hid (gbel G2.out (Bal (Bal NN.out _) _) (fun g hg => (TOP.out.lt g hg).1))
   have P2 : OO w.heap.size w2 (.slice A2 (k + 1) c2) (os.take (k + 1)) := by
    unfold OO
    rw [take_snoc' HO.out, flatO_push, List.length_append, TL.out]; exact O2.out
   refine ⟨⟨k + 1, .slice A2 (k + 1) c2, t + ob.many, by omega, by go_num, by omega, by omega, Lib.hid (by rw [TN, TS.out]), Lib.hid ?_, Lib.hid ?_, Lib.hid ?_, Lib.hid ?_, Lib.hid ?_⟩, by simp [intOf]; omega⟩
   ·exact Bset1 (Bset1 N2.out (by omega) 3 _) (by omega) 4 _
   ·exact blk_set_other (blk_set_other SB2.out (by omega) 3 _) (by omega) 4 _
   ·exact blk_set_other (blk_set_other RB2.out (by omega) 3 _) (by omega) 4 _
   ·exact blk_set (blk_set HB2.out 3 _) 4 _
   ·exact (P2.set_ HB2.out ne_she_ob _).set_ (blk_set HB2.out 3 _) ne_she_ob _
  ·obtain rfl : k = os.length := by omega
   have U1 : Hid (OO w.heap.size wr u os) := Lib.hid (by have := U.out; rw [List.take_of_length_le (Nat.le_refl _)] at this; exact this)
   have TS1 : t = strN os := by have := TS.out; rw [List.take_of_length_le (Nat.le_refl _)] at this; exact this
   have s2 := blk_cell SB.out 2 _ rfl
   have hz' := blk_lt SB.out
   clear U TS hlt
   go_wp2_with fail
   clear s2
   go_loopw [49] (fun i wr => ∃ (k : Nat) (v : Value) (hs : List Value) (us : List (List Value)) (fa : Nat), k ≤ ds.length ∧ i = .int .i64 k ∧ fa ≤ k ∧ Hid (fa = faN (ds.take k)) ∧ Hid (Below w.heap.size w wr) ∧ Hid (wr.heap[w.heap.size]? = some (.cells #[.int .i64 d, .int .i64 p, .slice D ds.length cd, .slice A os.length ca] 25)) ∧ Hid (wr.heap[w.heap.size + 1]? = some (.cells #[.int .i64 0, .int .i64 0, .slice none 0 0, .slice none 0 0, .int .i64 0, .int .i64 0] 79)) ∧ Hid (wr.heap[hb]? = some (.cells #[.int .i64 d, .int .i64 p, v, u, .int .i64 t, .int .i64 fa] 79)) ∧ Hid (OS w.heap.size wr v hs us (ds.take k)) ∧ Hid (OO w.heap.size wr u os)) (fun i _ => ds.length - (intOf i).toNat)
   case atStart => exact ⟨0, _, [], [], 0, by omega, rfl, by omega, Lib.hid (by simp [faN]), NN, SB, RB, HB, Lib.hid (by rw [List.take_zero]; exact OS.nil _ _), U1⟩
   case round =>
    clear NN SB RB HB U1 hzr hzh hz'
    obtain ⟨k, v, hs, us, fa, hk, rfl, fk, FS, NN, SB, RB, HB, O, U⟩ := hrel
    obtain ⟨wo, rfl⟩ : ∃ wo : World, wo = wr := ⟨_, rfl⟩
    have hzr := blk_lt RB.out
    have hzh := blk_lt HB.out
    have hz' := blk_lt SB.out
    by_cases hlt : k < ds.length
    ·obtain ⟨dk, hdk⟩ := get_some hlt
     obtain ⟨b, off, Ai, ci, rfl, hb9, c0, c1, h2, h3, hm⟩ := (HD.out.next NN.out).at_ hdk
     have HM := Lib.hid hm
     have HDK := Lib.hid hdk
     have FN := Lib.hid (faN_upto hdk fa FS.out)
     have HBK := Lib.hid (OK.out.bd (List.mem_of_getElem? hdk))
     have hbk := HBK.out.1
     clear hm hdk FS
     have s2 : wo.cell? ⟨w.heap.size, 2, none⟩ = some (.slice (some ⟨b, off, none⟩) ds.length cd) := blk_cell SB.out 2 _ rfl
     have k1 : (0 : Int) ≤ (k : Int) := by omega
     have k2 : (k : Int) < (ds.length : Int) := by omega
     go_wp2_with fail
     have DB0 : Hid ((wo.alloc (.cells #[.bool dk.failed, .slice none 0 0] 46)).heap[wo.heap.size]? = some (.cells #[.bool dk.failed, .slice none 0 0] 46)) := Lib.hid (blk_new _ _)
     have NI0 : Hid (Below wo.heap.size wo (wo.alloc (.cells #[.bool dk.failed, .slice none 0 0] 46))) := Lib.hid (Bal (Below.refl _ _) _)
     clear s2
     go_loopw [66] (fun i wr => ∃ (j : Nat) (x : Value) (ui : List Value), j ≤ dk.blocks.length ∧ i = .int .i64 j ∧ Hid (Below wo.heap.size wo wr) ∧ Hid (wr.heap[wo.heap.size]? = some (.cells #[.bool dk.failed, x] 46)) ∧ Hid (OMx wo.heap.size wr x ui (dk.blocks.take j))) (fun i _ => dk.blocks.length - (intOf i).toNat)
     case atStart => exact ⟨0, _, [], by omega, rfl, NI0, DB0, Lib.hid (by rw [List.take_zero]; exact OMx.nil _ _)⟩
     case round =>
      clear NI0 DB0
      obtain ⟨j, x, ui, hj, rfl, NI, Y, OI⟩ := hrel
      have hz : wo.heap.size < wr.heap.size := blk_lt Y.out
      by_cases hlj : j < dk.blocks.length
      ·obtain ⟨l, hl⟩ := get_some hlj
       obtain ⟨b2, off2, A3, c3, rfl, hb2, h1', h2', h3', h4⟩ := (HM.out.next NI.out).at_ hl
       have hln : l.length ≤ 8 := HBK.out.2 l (List.mem_of_getElem? hl)
       have HB4 := Lib.hid h4
       have HL := Lib.hid hl
       have TL : Hid ((dk.blocks.take j).length = j) := Lib.hid (by rw [List.length_take]; omega)
       obtain ⟨Av, cv, hv, hv1, hv2, _⟩ := own_form OI.out.top
       rw [TL.out] at hv hv1
       subst hv
       clear hl h4
       have y2 : wr.cell? ⟨wo.heap.size, 1, none⟩ = some (.slice Av j cv) := blk_cell Y.out 1 _ rfl
       have j1 : (0 : Int) ≤ (j : Int) := by omega
       have j2 : (j : Int) < (dk.blocks.length : Int) := by omega
       have TOP : Hid (wr.ownsRow wo.heap.size 26 1 (.slice Av j cv) j ui) := Lib.hid (by have := OI.out.top; rw [TL.out] at this; exact this)
       go_wp2_with fail
       go_region_law (first
        | (refine step_append_rd _ (by rfl) _ _ 44 (by rfl) wo.heap.size 26 i0 (.slice none 0 0) 1 24 Try.underlying44 HI.out.1 HI.out.2.1 HI.out.2.2.1 HI.out.2.2.2 rfl (by decide) _ j ui (by rfl) ?_ (some ⟨w1.heap.size, 0, none⟩) 1 1 [.slice Au l.length cu] (by rfl) ?_ (slice_one _ _ _) ?_ ?_ ?_ ?_; (first | exact (own_next N1.out TOP.out).alloc _ | exact ((own_next N1.out TOP.out).alloc _).drew); (exact rd_one (t := 26) (blk_new _ _)); (simp only [maxLen]; omega); omega; (first | exact NI.out.size | (have q1 := NI.out.size; have q2 := N1.out.size; simp; omega)); intro v2 w2 hown2 hg2 hat2; obtain ⟨A2, c2, rfl, g1, g2, _⟩ := own_form hown2; have G2 : Hid ((w1.alloc (.cells #[.slice Au l.length cu] 26)).grownBy w2 (Value.slice Av j cv).ownBlock) := Lib.hid (by first | exact hg2 | exact gundrew hg2); have Y2 : Hid (w2.heap[wo.heap.size]? = some (.cells #[.bool dk.failed, .slice Av j cv] 46)) := Lib.hid (gblk_ty G2.out ((own_next N1.out TOP.out).alloc _) (blk_alloc Y1.out _) ne_sl_dk); have O2 : Hid (w2.ownsRow wo.heap.size 26 1 (.slice A2 (j + 1) c2) (j + 1) (ui ++ [.slice Au l.length cu])) := Lib.hid hown2; have f2 : w2.frozen? ⟨wo.heap.size, 1, none⟩ = false := blk_frozen Y2.out 1; have y3 : w2.cell? ⟨wo.heap.size, 1, none⟩ = some (.slice Av j cv) := blk_cell Y2.out 1 _ rfl; have hz2 : wo.heap.size < w2.heap.size := blk_lt Y2.out; have N2 : Hid (Below wo.heap.size wo w2) := Lib.hid (gbel G2.out (Bal (Bgo NI.out N1.out) _) (fun g hg => (TOP.out.lt g hg).1)); clear hown2 hg2 hat2)
        | (go_simp; go_at_call 63; refine (clone_calls A3 c3 B l _ (by omega) ?_).mono ?_; (first | exact HB4.out | exact HB4.out.next (Below.refl _ _).drew); rintro e w1 ⟨u2, rfl, hu, hb1⟩; obtain ⟨Au, cu, rfl, hu1, hu2, _⟩ := own_form hu; have U1 : Hid (OB wr.heap.size w1 (.slice Au l.length cu) l) := Lib.hid hu; have N1 : Hid (Below wr.heap.size wr w1) := Lib.hid (by first | exact hb1 | exact (Below.refl _ _).drew.trans hb1); have Y1 := Lib.hid (blk_next N1.out Y.out); have y4 : w1.cell? ⟨wo.heap.size, 1, none⟩ = some (.slice Av j cv) := blk_cell Y1.out 1 _ rfl; have hz1 : wo.heap.size < w1.heap.size := blk_lt Y1.out; clear hu hb1))
       all_goals
        go_wp2_with fail
        have P2 : OMx wo.heap.size w2 (.slice A2 (j + 1) c2) (ui ++ [.slice Au l.length cu]) (dk.blocks.take (j + 1)) := by
         rw [take_snoc' HL.out]
         exact OMx.push OI.out (Bal N1.out _) (U1.out.alloc _) HB4.out.1 NI.out.size (by rw [TL.out]; exact O2.out) G2.out
        have Y3 := blk_set Y2.out 1 (.slice A2 (j + 1) c2)
        refine ⟨⟨j + 1, .slice A2 (j + 1) c2, ui ++ [.slice Au l.length cu], by omega, by go_num, Lib.hid ?_, Lib.hid ?_, Lib.hid ?_⟩, by simp [intOf]; omega⟩
        ·first | exact Bset1 N2.out (by omega) 1 _ | exact (Bset1 N2.out (by omega) 1 _).drew
        ·exact Y3
        ·exact P2.set_ Y2.out ne_dk_u8 ne_dk_sl _
      ·obtain rfl : j = dk.blocks.length := by omega
       have OF : Hid (OMx wo.heap.size wr x ui dk.blocks) := Lib.hid (by have := OI.out; rw [List.take_of_length_le (Nat.le_refl _)] at this; exact this)
       have TL : Hid ((ds.take k).length = k) := Lib.hid (by rw [List.length_take]; omega)
       obtain ⟨Av, cv, hv, hv1, hv2⟩ := own_form2 O.out.top
       rw [TL.out] at hv hv1
       subst hv
       have GX := Lib.hid (blk_next NI.out HB.out)
       have SX := Lib.hid (blk_next NI.out SB.out)
       have RX := Lib.hid (blk_next NI.out RB.out)
       have UX := Lib.hid (U.out.next NI.out)
       have OX := Lib.hid (O.out.next NI.out)
       have NX := Lib.hid (Bgo NN.out NI.out)
       have hzx : hb < wr.heap.size := blk_lt GX.out
       clear OI
       by_cases hf : dk.failed = true
       ·rw [hf] at Y FN
        simp only [if_true] at FN
        have g5 := blk_cell GX.out 5 _ rfl
        have fg5 := blk_frozen GX.out 5
        have g2 : wr.cell? ⟨hb, 2, none⟩ = some (.slice Av k cv) := blk_cell GX.out 2 _ rfl
        have y0 : wr.cell? ⟨wo.heap.size, 0, none⟩ = some (.bool true) := blk_cell Y.out 0 _ rfl
        have y1 : wr.cell? ⟨wo.heap.size, 1, none⟩ = some x := blk_cell Y.out 1 _ rfl
        have TOP : Hid ((wr.setCell ⟨hb, 5, none⟩ (.int .i64 ((fa : Int) + 1))).ownsRow w.heap.size 46 2 (.slice Av k cv) k (flatD (ds.take k) hs)) := Lib.hid (by have := (OX.out.set_ (o := 5) GX.out ne_she_u8 ne_she_sl ne_she_dk (.int .i64 ((fa : Int) + 1))).top; rw [TL.out] at this; exact this)
        go_wp2_with (at_builtin; refine wpList_append_rd _ rfl _ _ 22 rfl w.heap.size 46 m0 zD 2 32 Try.underlying22 HM0.out.1 HM0.out.2.1 HM0.out.2.2.1 HM0.out.2.2.2 rfl (by decide) _ k (flatD (ds.take k) hs) rfl (TOP.out.alloc _) (some ⟨wr.heap.size, 0, none⟩) 1 1 [.bool true, x] rfl (rd_dk (blk_at (w := (wr.setCell ⟨hb, 5, none⟩ (.int .i64 ((fa : Int) + 1)))) (b := wr.heap.size) _ (by simp))) (dk_one OF.out) (by simp only [maxLen]; omega) (by omega) (by have q := NX.out.size; simp; omega) ?_; intro v3 w3 hown3 hg3 hat3; obtain ⟨A3, c3, rfl, g3, g4⟩ := own_form2 hown3; have G3 := Lib.hid hg3; have O3 := Lib.hid hown3; have GY : Hid (w3.heap[hb]? = some (.cells #[.int .i64 d, .int .i64 p, .slice Av k cv, u, .int .i64 t, .int .i64 ((fa : Int) + 1)] 79)) := Lib.hid (gblk_ty hg3 (TOP.out.alloc _) (blk_alloc (blk_set GX.out 5 (.int .i64 ((fa : Int) + 1))) _) ne_dk_she); have gf := blk_frozen GY.out 2; have gl := blk_lt GY.out; have gc := blk_cell GY.out 2 _ rfl; clear hown3 hg3 hat3)
        have P3 := OS.push2 (d := dk) O.out ((OX.out.set_ GX.out ne_she_u8 ne_she_sl ne_she_dk _).next (Bal (Below.refl _ _) _)) ((OF.out.set_ GX.out ne_she_u8 ne_she_sl _).next (Bal (Below.refl _ _) _)) NN.out.size (by rw [TL.out, hf]; exact O3.out) G3.out
        rw [← take_snoc' HDK.out] at P3
        have N3 : Hid (Below w.heap.size w w3) := Lib.hid (gbel G3.out (Bal (Bset1 NX.out (by omega) 5 _) _) (fun g hg => (TOP.out.lt g hg).1))
        have SY : Hid (w3.heap[w.heap.size]? = some (.cells #[.int .i64 d, .int .i64 p, .slice (some ⟨b, off, none⟩) ds.length cd, .slice A os.length ca] 25)) := Lib.hid (gblk_ty G3.out (TOP.out.alloc _) (blk_alloc (blk_set_other SX.out (by omega) 5 _) _) ne_dk_sto)
        have XY : Hid (w3.heap[w.heap.size + 1]? = some (.cells #[.int .i64 0, .int .i64 0, .slice none 0 0, .slice none 0 0, .int .i64 0, .int .i64 0] 79)) := Lib.hid (gblk_ty G3.out (TOP.out.alloc _) (blk_alloc (blk_set_other RX.out (by omega) 5 _) _) ne_dk_she)
        have U3 : Hid (OO w.heap.size w3 u os) := Lib.hid (OO.kept ((UX.out.set_ GX.out ne_she_ob _).next (Bal (Below.refl _ _) _)) (TOP.out.alloc _) ne_dk_ob G3.out)
        refine ⟨⟨k + 1, .slice A3 (k + 1) c3, hs ++ [x], us ++ [ui], fa + 1, by omega, by go_num, by omega, FN, Lib.hid ?_, Lib.hid ?_, Lib.hid ?_, Lib.hid ?_, Lib.hid ?_, Lib.hid ?_⟩, by simp [intOf]; omega⟩
        ·exact Bset1 N3.out (by omega) 2 _
        ·exact blk_set_other SY.out (by omega) 2 _
        ·exact blk_set_other XY.out (by omega) 2 _
        ·exact blk_set GY.out 2 _
        ·exact P3.set_ GY.out ne_she_u8 ne_she_sl ne_she_dk _
        ·exact U3.out.set_ GY.out ne_she_ob _
       ·have hf' : dk.failed = false := by simpa using hf
        rw [hf'] at Y FN
        simp only [Bool.false_eq_true, if_false] at FN
        have g2 : wr.cell? ⟨hb, 2, none⟩ = some (.slice Av k cv) := blk_cell GX.out 2 _ rfl
        have y0 : wr.cell? ⟨wo.heap.size, 0, none⟩ = some (.bool false) := blk_cell Y.out 0 _ rfl
        have y1 : wr.cell? ⟨wo.heap.size, 1, none⟩ = some x := blk_cell Y.out 1 _ rfl
        have TOP : Hid (wr.ownsRow w.heap.size 46 2 (.slice Av k cv) k (flatD (ds.take k) hs)) := Lib.hid (by have := OX.out.top; rw [TL.out] at this; exact this)
        go_wp2_with (at_builtin; refine wpList_append_rd _ rfl _ _ 22 rfl w.heap.size 46 m0 zD 2 32 Try.underlying22 HM0.out.1 HM0.out.2.1 HM0.out.2.2.1 HM0.out.2.2.2 rfl (by decide) _ k (flatD (ds.take k) hs) rfl (TOP.out.alloc _) (some ⟨wr.heap.size, 0, none⟩) 1 1 [.bool false, x] rfl (rd_dk (blk_at (w := wr) (b := wr.heap.size) _ (by simp))) (dk_one OF.out) (by simp only [maxLen]; omega) (by omega) (by have q := NX.out.size; simp; omega) ?_; intro v3 w3 hown3 hg3 hat3; obtain ⟨A3, c3, rfl, g3, g4⟩ := own_form2 hown3; have G3 := Lib.hid hg3; have O3 := Lib.hid hown3; have GY : Hid (w3.heap[hb]? = some (.cells #[.int .i64 d, .int .i64 p, .slice Av k cv, u, .int .i64 t, .int .i64 ((fa : Int))] 79)) := Lib.hid (gblk_ty hg3 (TOP.out.alloc _) (blk_alloc (GX.out) _) ne_dk_she); have gf := blk_frozen GY.out 2; have gl := blk_lt GY.out; have gc := blk_cell GY.out 2 _ rfl; clear hown3 hg3 hat3)
        have P3 := OS.push2 (d := dk) O.out (OX.out.next (Bal (Below.refl _ _) _)) (OF.out.next (Bal (Below.refl _ _) _)) NN.out.size (by rw [TL.out, hf']; exact O3.out) G3.out
        rw [← take_snoc' HDK.out] at P3
        have N3 : Hid (Below w.heap.size w w3) := Lib.hid (gbel G3.out (Bal NX.out _) (fun g hg => (TOP.out.lt g hg).1))
        have SY : Hid (w3.heap[w.heap.size]? = some (.cells #[.int .i64 d, .int .i64 p, .slice (some ⟨b, off, none⟩) ds.length cd, .slice A os.length ca] 25)) := Lib.hid (gblk_ty G3.out (TOP.out.alloc _) (blk_alloc (SX.out) _) ne_dk_sto)
        have XY : Hid (w3.heap[w.heap.size + 1]? = some (.cells #[.int .i64 0, .int .i64 0, .slice none 0 0, .slice none 0 0, .int .i64 0, .int .i64 0] 79)) := Lib.hid (gblk_ty G3.out (TOP.out.alloc _) (blk_alloc (RX.out) _) ne_dk_she)
        have U3 : Hid (OO w.heap.size w3 u os) := Lib.hid (OO.kept (UX.out.next (Bal (Below.refl _ _) _)) (TOP.out.alloc _) ne_dk_ob G3.out)
        refine ⟨⟨k + 1, .slice A3 (k + 1) c3, hs ++ [x], us ++ [ui], fa, by omega, by go_num, by omega, FN, Lib.hid ?_, Lib.hid ?_, Lib.hid ?_, Lib.hid ?_, Lib.hid ?_, Lib.hid ?_⟩, by simp [intOf]; omega⟩
        ·exact Bset1 N3.out (by omega) 2 _
        ·exact blk_set_other SY.out (by omega) 2 _
        ·exact blk_set_other XY.out (by omega) 2 _
        ·exact blk_set GY.out 2 _
        ·exact P3.set_ GY.out ne_she_u8 ne_she_sl ne_she_dk _
        ·exact U3.out.set_ GY.out ne_she_ob _
    ·obtain rfl : k = ds.length := by omega
     have O1 : Hid (OS w.heap.size wo v hs us ds) := Lib.hid (by have := O.out; rw [List.take_of_length_le (Nat.le_refl _)] at this; exact this)
     have FS1 : fa = faN ds := by have := FS.out; rw [List.take_of_length_le (Nat.le_refl _)] at this; exact this
     obtain ⟨Av, cv, rfl, hv1, hv2⟩ := own_form2 O1.out.top
     obtain ⟨Au, cu, rfl, hu1, hu2⟩ := U.out.form
     have g0 := blk_cell HB.out 0 _ rfl
     have g1 := blk_cell HB.out 1 _ rfl
     have g2 := blk_cell HB.out 2 _ rfl
     have g3 := blk_cell HB.out 3 _ rfl
     have g4 := blk_cell HB.out 4 _ rfl
     have g5 := blk_cell HB.out 5 _ rfl
     have x0 := blk_cell RB.out 0 _ rfl
     have fx0 := blk_frozen RB.out 0
     have x1 := blk_cell RB.out 1 _ rfl
     have fx1 := blk_frozen RB.out 1
     have x2 := blk_cell RB.out 2 _ rfl
     have fx2 := blk_frozen RB.out 2
     have x3 := blk_cell RB.out 3 _ rfl
     have fx3 := blk_frozen RB.out 3
     have x4 := blk_cell RB.out 4 _ rfl
     have fx4 := blk_frozen RB.out 4
     have x5 := blk_cell RB.out 5 _ rfl
     have fx5 := blk_frozen RB.out 5
     go_wp2_with fail
     have Z := blk_set6 RB.out (.int .i64 d) (.int .i64 p) (.slice Av ds.length cv) (.slice Au os.length cu) (.int .i64 t) (.int .i64 (fa : Int))
     have e0 := blk_cell Z 0 _ rfl
     have e1 := blk_cell Z 1 _ rfl
     have e2 := blk_cell Z 2 _ rfl
     have e3 := blk_cell Z 3 _ rfl
     have e4 := blk_cell Z 4 _ rfl
     have e5 := blk_cell Z 5 _ rfl
     rw [← TS1, ← FS1]
     exact bodyPost_ret (v := .tuple #[Hv d p (.slice Av ds.length cv) (.slice Au os.length cu) t fa, .int .i64 0]) (by simp [results, Try.results42, go_sem, e0, e1, e2, e3, e4, e5]) rfl ⟨_, _, rfl, ⟨hs, us, O1.out.set6_ RB.out _ _ _ _ _ _⟩, U.out.set6_ RB.out _ _ _ _ _ _, Bset6 NN.out (by omega) _ _ _ _ _ _⟩
end Go.Proofs.Ytapehckcmmompaa
namespace Go.Proofs.Ytapehckcmmompaa
open Go.ChangeShapes Go.WideShapes Go.ChangeAt Go.RowKit
set_option linter.unusedVariables false
set_option maxRecDepth 100000
attribute [local go_sem ↓] Go.wp_at_zero Go.wp_at_succ
def strTo (ds : List Dk) (k n : Nat) : List (List Nat) := ds.mapIdx fun i x => if i < n ∧ x.failed = false then x.blocks.getD k [] else []
theorem strTo_len (ds : List Dk) (k n : Nat) : (strTo ds k n).length = ds.length := by simp [strTo]
theorem strTo_get {ds : List Dk} {k n i : Nat} {x : Dk} (h : ds[i]? = some x) : (strTo ds k n)[i]? = some (if i < n ∧ x.failed = false then x.blocks.getD k [] else []) := by simp [strTo, h]
theorem strTo_all (ds : List Dk) (k : Nat) : strTo ds k ds.length = strp ds k := by
  refine List.ext_getElem? fun i => ?_
  cases h : ds[i]? with
  | none => simp [strTo, strp, h]
  | some x =>
    rw [strTo_get h, strp_get h]
    cases e : x.failed <;> simp [get_lt h]
theorem strTo_skip {ds : List Dk} {k n : Nat} {x : Dk} (h : ds[n]? = some x) (hf : x.failed = true) : strTo ds k (n + 1) = strTo ds k n := by
  refine List.ext_getElem? fun i => ?_
  cases h' : ds[i]? with
  | none => simp [strTo, h']
  | some y =>
    rw [strTo_get h', strTo_get h']
    by_cases e : i = n
    · subst e; rw [h] at h'; cases h'; simp [hf]
    · have : i < n + 1 ↔ i < n := by omega
      simp only [this]
theorem strTo_step {ds : List Dk} {k n : Nat} {x : Dk} (h : ds[n]? = some x) (hf : x.failed = false) : strTo ds k (n + 1) = (strTo ds k n).set n (x.blocks.getD k []) := by
  refine List.ext_getElem? fun i => ?_
  rw [List.getElem?_set, strTo_len]
  by_cases e : n = i
  · subst e
    rw [if_pos rfl, if_pos (get_lt h), strTo_get h]; simp [hf]
  · rw [if_neg e]
    cases h' : ds[i]? with
    | none => simp [strTo, h']
    | some y =>
      rw [strTo_get h', strTo_get h']
      have : i < n + 1 ↔ i < n := by omega
      simp only [this]
theorem RB.nil (B : Nat) (w : World) : RB B w (.slice none 0 0) [] := ⟨none, 0, rfl, Nat.le_refl _, by omega, Byt.nil, Hd.nil _ _ _⟩
theorem nil_top {B hb : Nat} (W : World) (n : Nat) (h : n ≤ 9223372036854775807) (hB : B ≤ W.heap.size) (he : hb = W.heap.size) : (W.alloc (.cells (madeCells #[.slice none 0 0] n) 26)).ownsRow B 26 1 (.slice (some ⟨hb, 0, none⟩) n n) n (List.replicate n (.slice none 0 0)) := by
  have := (nil_rows_at W n h hB he).top
  rw [List.length_replicate] at this; exact this
set_option maxHeartbeats 16000000 in
theorem stripe_calls (d p : Int) (D A : Option Addr) (cd na ca B : Nat) (st fa : Int) (ds : List Dk) (k : Nat) (w : World) (hnd : ds.length ≤ cd) (hcd : cd ≤ 9223372036854775807) (hd : RD B w D ds)
    (h20 : ds.length ≤ 20) (hk : ∀ x ∈ ds, x.failed = false → k < x.blocks.length) :
    Calls Try.prog 52 #[Hv d p (.slice D ds.length cd) (.slice A na ca) st fa, .int .i64 (k : Int)] w (fun e w' => ∃ v, e = .returned (Sv d p v) ∧ RM 0 w' v (strp ds k) ∧ Below w.heap.size w w') := by
  have HD := Lib.hid hd
  have HK := Lib.hid hk
  have mk := fun W => make_rows W ds.length (by omega)
  clear hd hk
  go_enter Try.func52, Try.ntmps52
  go_upto_region 1 with fail
  go_cut [5] (fun s5 wx => ∃ cb hb : Nat, s5 = .pointer (some ⟨cb, 0, none⟩) ∧ w.heap.size + 1 < cb ∧ w.heap.size + 1 < hb ∧ Hid (Below w.heap.size w wx) ∧ Hid (wx.heap[w.heap.size]? = some (.cells #[.int .i64 d, .int .i64 p, .slice D ds.length cd, .slice A na ca, .int .i64 st, .int .i64 fa] 79)) ∧ Hid (wx.heap[w.heap.size + 1]? = some (.cells #[.int .i64 0, .int .i64 0, .slice none 0 0] 54)) ∧ Hid (wx.heap[cb]? = some (.cells #[.int .i64 d, .int .i64 p, .slice (some ⟨hb, 0, none⟩) ds.length ds.length] 54)) ∧ Hid (wx.ownsRow w.heap.size 26 1 (.slice (some ⟨hb, 0, none⟩) ds.length ds.length) ds.length (List.replicate ds.length (.slice none 0 0))))
  case first =>
    go_region
    all_goals
      go_wp2_with fail
      go_meet
      first
        | (refine ⟨w.heap.size + 1 + 1 + 1, w.heap.size + 1 + 1, rfl, by omega, by omega, Lib.hid ?_, Lib.hid ?_, Lib.hid ?_, Lib.hid ?_, Lib.hid ?_⟩
           · repeat (first | exact Below.refl _ _ | refine Below.drew ?_ | refine Bal ?_ _)
           · exact blk_alloc (blk_alloc (blk_alloc (blk_new w _) _) _) _
           · exact blk_alloc (blk_alloc (blk_at _ (by simp)) _) _
           · exact blk_at _ (by simp)
           · exact own_next (Bal (Below.refl _ _) _).drew (nil_top _ ds.length (by omega) (by simp; omega) (by simp)))
        | (refine ⟨w.heap.size + 1 + 1, w.heap.size + 1 + 1 + 1, rfl, by omega, by omega, Lib.hid ?_, Lib.hid ?_, Lib.hid ?_, Lib.hid ?_, Lib.hid ?_⟩
           · repeat (first | exact Below.refl _ _ | refine Below.drew ?_ | refine Bal ?_ _)
           · exact blk_alloc (blk_alloc (blk_alloc (blk_new w _) _) _) _
           · exact blk_alloc (blk_alloc (blk_at _ (by simp)) _) _
           · exact blk_alloc (blk_at _ (by simp)) _
           · exact own_next (Below.refl _ _).drew (nil_top _ ds.length (by omega) (by simp; omega) (by simp)))
        | trace_state
  case rest =>
    obtain ⟨cb, hb, rfl, hcb, hhb, N0, SB0, X0, Y0, O0⟩ := hcut
    have s2 : wc.cell? ⟨w.heap.size, 2, none⟩ = some (.slice D ds.length cd) := blk_cell SB0.out 2 _ rfl
    go_wp2_with fail
    clear s2
    go_loopw [23] (fun i wr => ∃ (i' : Nat) (us : List Value), i' ≤ ds.length ∧ i = .int .i64 i' ∧ Hid (Below w.heap.size w wr) ∧ Hid (wr.heap[w.heap.size]? = some (.cells #[.int .i64 d, .int .i64 p, .slice D ds.length cd, .slice A na ca, .int .i64 st, .int .i64 fa] 79)) ∧ Hid (wr.heap[w.heap.size + 1]? = some (.cells #[.int .i64 0, .int .i64 0, .slice none 0 0] 54)) ∧ Hid (wr.heap[cb]? = some (.cells #[.int .i64 d, .int .i64 p, .slice (some ⟨hb, 0, none⟩) ds.length ds.length] 54)) ∧ Hid (wr.ownsRow w.heap.size 26 1 (.slice (some ⟨hb, 0, none⟩) ds.length ds.length) ds.length us) ∧ Hid (∀ (j : Nat) (u : Value) (l : List Nat), us[j]? = some u → (strTo ds k i')[j]? = some l → RB 0 w u l)) (fun i _ => ds.length - (intOf i).toNat)
    case atStart => exact ⟨0, _, by omega, rfl, N0, SB0, X0, Y0, O0, Lib.hid (fun j u l hu hl => by
      have e1 := List.eq_of_mem_replicate (List.mem_of_getElem? hu)
      obtain ⟨x, hx⟩ := get_some (show j < ds.length by have := get_lt hl; rw [strTo_len] at this; exact this)
      rw [strTo_get hx] at hl
      simp at hl
      subst e1 hl
      exact RB.nil _ _)⟩
    case round =>
      clear N0 SB0 X0 Y0 O0
      obtain ⟨i, us, hi, rfl, N, SB, X, Y, T, O⟩ := hrel
      have hz : cb < wr.heap.size := blk_lt Y.out
      have hz' := blk_lt SB.out
      by_cases hlt : i < ds.length
      · obtain ⟨dk, hdk⟩ := get_some hlt
        obtain ⟨b, off, Ai, ci, rfl, hb9, c0, c1, h2, h3, hm⟩ := HD.out.at_ hdk
        have HDK := Lib.hid hdk
        have HM := Lib.hid hm
        have s2 : wr.cell? ⟨w.heap.size, 2, none⟩ = some (.slice (some ⟨b, off, none⟩) ds.length cd) := blk_cell SB.out 2 _ rfl
        have y2 := blk_cell Y.out 2 _ rfl
        have c0' := (N.out.cell hb9).trans c0
        have k1 : (0 : Int) ≤ (i : Int) := by omega
        have k2 : (i : Int) < (ds.length : Int) := by omega
        clear hm c0
        by_cases hf : dk.failed = true
        · rw [hf] at c0'
          go_wp2_with fail
          refine ⟨⟨i + 1, us, by omega, by go_num, N, SB, X, Y, T, Lib.hid ?_⟩, by simp [intOf]; omega⟩
          rw [strTo_skip HDK.out hf]; exact O.out
        · have hf' : dk.failed = false := by simpa using hf
          have HF := Lib.hid hf'
          rw [hf'] at c0'
          have hkb := HK.out dk (List.mem_of_getElem? hdk) hf'
          obtain ⟨l, hl⟩ := get_some hkb
          obtain ⟨b2, off2, A3, c3, rfl, hb2, h1', h2', h3', h4⟩ := HM.out.at_ hl
          have HB4 := Lib.hid h4
          have HL := Lib.hid hl
          have c1' := (N.out.cell hb9).trans c1
          have d1' := (N.out.cell hb2).trans h1'
          have j1 : (0 : Int) ≤ (k : Int) := by omega
          have j2 : (k : Int) < (dk.blocks.length : Int) := by omega
          have HK2 : Hid (i < ds.length * 1) := Lib.hid (by omega)
          obtain ⟨u0, hu0⟩ := get_some (show i < us.length by have := T.out.1; omega)
          have c9 : wr.cell? ⟨hb, i, none⟩ = some u0 := (T.out.cellAt i HK2.out).trans hu0
          have f9 : wr.frozen? ⟨hb, i, none⟩ = false := T.out.frozenAt i
          have HNE : Hid (hb ≠ cb) := Lib.hid (fun e => own_ne T.out Y.out ne_sl_st (by rw [e]; rfl))
          have hbz : hb < wr.heap.size := (T.out.lt hb rfl).2
          have hb9' : b < wr.heap.size := by have := N.out.size; omega
          have hb2' : b2 < wr.heap.size := by have := N.out.size; omega
          clear hf hf' hl h4 hdk hu0 c1 h1'
          go_wp2_with fail
          go_region
          all_goals
            go_wp2_with fail
            have st := T.out.stored i (.slice A3 l.length c3)
            refine ⟨⟨i + 1, us.set i (.slice A3 l.length c3), by omega, by go_num, Lib.hid ?_, Lib.hid ?_, Lib.hid ?_, Lib.hid ?_, Lib.hid ?_, Lib.hid ?_⟩, by simp [intOf]; omega⟩
            · first | exact Bset1 N.out (by omega) i _ | exact (Bset1 N.out (by omega) i _).drew
            · exact blk_set_other SB.out (by omega) i _
            · exact blk_set_other X.out (by omega) i _
            · exact blk_set_other Y.out HNE.out i _
            · have h := st.1
              try simp at h
              first | exact h | exact h.drew
            · intro j u l' hu hl'
              rw [strTo_step HDK.out HF.out] at hl'
              rcases set_get hu with ⟨rfl, rfl, _⟩ | ⟨e1, e2⟩
              · rcases set_get hl' with ⟨_, rfl, _⟩ | ⟨e3, _⟩
                · rw [List.getD_eq_getElem?_getD, HL.out, Option.getD_some]
                  exact ⟨_, _, rfl, h2', h3', HB4.out.mono (Nat.zero_le _)⟩
                · exact absurd rfl e3
              · rcases set_get hl' with ⟨e3, _⟩ | ⟨_, e4⟩
                · exact absurd e3 e1
                · exact O.out j u l' e2 e4
      · obtain rfl : i = ds.length := by omega
        have y0 := blk_cell Y.out 0 _ rfl
        have y1 := blk_cell Y.out 1 _ rfl
        have y2 := blk_cell Y.out 2 _ rfl
        have x0 := blk_cell X.out 0 _ rfl
        have fx0 := blk_frozen X.out 0
        have x1 := blk_cell X.out 1 _ rfl
        have fx1 := blk_frozen X.out 1
        have x2 := blk_cell X.out 2 _ rfl
        have fx2 := blk_frozen X.out 2
        go_wp2_with fail
        have Z := blk_set3 X.out (.int .i64 d) (.int .i64 p) (.slice (some ⟨hb, 0, none⟩) ds.length ds.length)
        have e0 := blk_cell Z 0 _ rfl
        have e1 := blk_cell Z 1 _ rfl
        have e2 := blk_cell Z 2 _ rfl
        have NF := Bset3 N.out (show w.heap.size ≤ w.heap.size + 1 by omega) (.int .i64 d) (.int .i64 p) (.slice (some ⟨hb, 0, none⟩) ds.length ds.length)
        have TF : (set3 wr (w.heap.size + 1) (.int .i64 d) (.int .i64 p) (.slice (some ⟨hb, 0, none⟩) ds.length ds.length)).ownsRow w.heap.size 26 1 (.slice (some ⟨hb, 0, none⟩) ds.length ds.length) ds.length us :=
          own_same T.out fun g cs hg hh => by
            have hne : g ≠ w.heap.size + 1 := fun e => by
              subst e
              rw [X.out] at hh
              injection hh with hh
              injection hh with _ ht _
              exact ne_sl_st ht.symm
            exact ((blk_set3_other hh (fun e => hne e.symm) _ _ _).trans hh.symm)
        rw [strTo_all] at O
        have LN := strp_len ds k
        refine bodyPost_ret (v := Sv d p (.slice (some ⟨hb, 0, none⟩) ds.length ds.length)) (by simp [results, Try.results52, go_sem, e0, e1, e2]) rfl ⟨_, rfl, ⟨some ⟨hb, 0, none⟩, ds.length, by rw [LN], by omega, by omega, us, by rw [LN]; have := T.out.1; omega, (Hd.of_own TF).mono (Nat.zero_le _), fun j u l hu hl => (O.out j u l hu hl).next NF⟩, NF⟩
end Go.Proofs.Ytapehckcmmompaa
