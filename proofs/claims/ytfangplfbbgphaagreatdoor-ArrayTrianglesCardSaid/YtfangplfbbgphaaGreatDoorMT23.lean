/- Several texts in one. -/
import Derived.Test.YtfangplfbbgphaaGreatDoorRows
import Derived.Deep.DeepHandedRow
import Derived.ProofKit
import Derived.SizedLaws
import Derived.Stop.LaidErr
import Derived.Lib.LaidTab
import Derived.Test.YtfangplfbbgphaaGreatDoorMT12
import Derived.Test.YtfangplfbbgphaaGreatDoorMT17
import Derived.Test.YtfangplfbbgphaaGreatDoorMT20
import Derived.Test.YtfangplfbbgphaaGreatDoorMT21
import Derived.Test.YtfangplfbbgphaaGreatDoorMT22
namespace Go.Proofs.YtfangplfbbgphaaGreatDoor
open Go.ChangeShapes Go.WideShapes Go.ChangeAt Go.RowKit
set_option linter.unusedVariables false
set_option maxRecDepth 100000
set_option linter.unusedSimpArgs false
attribute [local go_sem ↓] Go.wp_at_zero Go.wp_at_succ
attribute [local go_sem ↓] eqVe
theorem li_ok {A B : Int} {l : List St} (h : plE A B l = 0) {i j : Nat} {s t : St} (hs : l[i]? = some s) (ht : l[j]? = some t) : liE A B l i j = 0 ∧ liV A B l i j = subV (plV A B t) (plV A B s) := by
 have hi := get_lt hs
 have hj := get_lt ht
 have h0 : liE A B l i j = 0 := by
  unfold liE
  rw [if_neg (by rw [h]; simp), show (inB (i : Int) l.length && inB (j : Int) l.length) = true by unfold inB; rw [decide_eq_true (by omega : 0 ≤ (i : Int)), decide_eq_true (by omega : (i : Int) < (l.length : Int)), decide_eq_true (by omega : 0 ≤ (j : Int)), decide_eq_true (by omega : (j : Int) < (l.length : Int))]; rfl]
  rfl
 refine ⟨h0, ?_⟩
 unfold liV
 rw [if_pos h0, Int.toNat_natCast, Int.toNat_natCast, hs, ht]
theorem idx_of {A B : Int} {l : List St} (h : plE A B l = 0) {i j : Nat} {s t : St} (hs : l[i]? = some s) (ht : l[j]? = some t) (e : plV A B s = plV A B t) : i = j := by
 have hd := (plE_ok h).2.2
 rcases Nat.lt_trichotomy i j with h1 | h1 | h1
 ·have := dupB_iff.2 ⟨i, j, _, _, h1, pls_get (A := A) (B := B) hs, pls_get (A := A) (B := B) ht, by unfold dupP; simp [e]⟩
  rw [hd] at this; cases this
 ·exact h1
 ·have := dupB_iff.2 ⟨j, i, _, _, h1, pls_get (A := A) (B := B) ht, pls_get (A := A) (B := B) hs, by unfold dupP; simp [e]⟩
  rw [hd] at this; cases this
set_option maxRecDepth 100000 in
set_option maxHeartbeats 16000000 in
theorem tri_calls {A B i j k : Int} {a : Option Addr} {c : Nat} {l : List St} {w : World} (g : GT w) (hl : RSt w a l) (hc : l.length ≤ c) (hc' : c ≤ 9223372036854775807) : Calls Tryz.prog 4 #[Gv A B, .slice a l.length c, .int .i64 i, .int .i64 j, .int .i64 k] w fun e w' => e = .returned (.bool true) ∧ Below w.heap.size w w' := by
 have NN := Lib.hid (Below.refl w.heap.size w)
 have GG := Lib.hid g
 have HL := Lib.hid hl
 have FC := Lib.hid (fun (W : World) (hb : Below w.heap.size w W) => fit_calls (A := A) (B := B) (hl.next hb) hc hc')
 clear g hl
 cases hf : fitB A B l
 ·rw [hf] at FC
  clear hf
  go_enter Tryz.func4, Tryz.ntmps4
  go_wp2_with fail
  have G : Hid ((w.alloc (.cells #[.int .i64 A, .int .i64 B] 23)).heap[w.heap.size]? = some (.cells #[.int .i64 A, .int .i64 B] 23)) := Lib.hid (blk_new w _)
  replace NN : Hid (Below w.heap.size w (w.alloc (.cells #[.int .i64 A, .int .i64 B] 23))) := Lib.hid (Bal NN.out _)
  generalize (w.alloc (.cells #[.int .i64 A, .int .i64 B] 23)) = W1 at *
  have c_G_0 := blk_cell G.out 0 _ rfl
  have f_G_0 := blk_frozen G.out 0
  have c_G_1 := blk_cell G.out 1 _ rfl
  have f_G_1 := blk_frozen G.out 1
  have l_G := blk_lt G.out
  clear c_G_0 f_G_0 c_G_1 f_G_1 l_G
  refine (FC.out _ NN.out).mono ?_
  rintro e w2 ⟨rfl, hb⟩
  replace NN := Lib.hid (Bgo NN.out hb)
  replace G := Lib.hid (blk_next hb G.out)
  clear hb
  go_wp2_with fail
  refine (alive_calls _ (GG.out.next NN.out)).mono ?_
  rintro e w3 ⟨rfl, hb⟩
  replace NN := Lib.hid (Bgo NN.out hb)
  replace G := Lib.hid (blk_next hb G.out)
  clear hb
  go_wp2_with fail
  go_ret
  exact ⟨rfl, NN.out⟩
 rw [hf] at FC
 have hp := fit_ok hf
 have HN := Lib.hid (fit_nm hf)
 clear hf
 by_cases h0 : i < 0
 ·have d0 : decide (i < 0) = true := decide_eq_true h0
  clear hp h0
  go_enter Tryz.func4, Tryz.ntmps4
  go_wp2_with fail
  have G : Hid ((w.alloc (.cells #[.int .i64 A, .int .i64 B] 23)).heap[w.heap.size]? = some (.cells #[.int .i64 A, .int .i64 B] 23)) := Lib.hid (blk_new w _)
  replace NN : Hid (Below w.heap.size w (w.alloc (.cells #[.int .i64 A, .int .i64 B] 23))) := Lib.hid (Bal NN.out _)
  generalize (w.alloc (.cells #[.int .i64 A, .int .i64 B] 23)) = W4 at *
  have c_G_0 := blk_cell G.out 0 _ rfl
  have f_G_0 := blk_frozen G.out 0
  have c_G_1 := blk_cell G.out 1 _ rfl
  have f_G_1 := blk_frozen G.out 1
  have l_G := blk_lt G.out
  clear c_G_0 f_G_0 c_G_1 f_G_1 l_G
  refine (FC.out _ NN.out).mono ?_
  rintro e w5 ⟨rfl, hb⟩
  replace NN := Lib.hid (Bgo NN.out hb)
  replace G := Lib.hid (blk_next hb G.out)
  clear hb
  go_wp2_with fail
  refine (alive_calls _ (GG.out.next NN.out)).mono ?_
  rintro e w6 ⟨rfl, hb⟩
  replace NN := Lib.hid (Bgo NN.out hb)
  replace G := Lib.hid (blk_next hb G.out)
  clear hb
  go_wp2_with fail
  go_ret
  exact ⟨rfl, NN.out⟩
 by_cases h1 : j < 0
 ·have d0 : decide (i < 0) = false := decide_eq_false h0
  have d1 : decide (j < 0) = true := decide_eq_true h1
  clear hp h0 h1
  go_enter Tryz.func4, Tryz.ntmps4
  go_wp2_with fail
  have G : Hid ((w.alloc (.cells #[.int .i64 A, .int .i64 B] 23)).heap[w.heap.size]? = some (.cells #[.int .i64 A, .int .i64 B] 23)) := Lib.hid (blk_new w _)
  replace NN : Hid (Below w.heap.size w (w.alloc (.cells #[.int .i64 A, .int .i64 B] 23))) := Lib.hid (Bal NN.out _)
  generalize (w.alloc (.cells #[.int .i64 A, .int .i64 B] 23)) = W7 at *
  have c_G_0 := blk_cell G.out 0 _ rfl
  have f_G_0 := blk_frozen G.out 0
  have c_G_1 := blk_cell G.out 1 _ rfl
  have f_G_1 := blk_frozen G.out 1
  have l_G := blk_lt G.out
  clear c_G_0 f_G_0 c_G_1 f_G_1 l_G
  refine (FC.out _ NN.out).mono ?_
  rintro e w8 ⟨rfl, hb⟩
  replace NN := Lib.hid (Bgo NN.out hb)
  replace G := Lib.hid (blk_next hb G.out)
  clear hb
  go_wp2_with fail
  refine (alive_calls _ (GG.out.next NN.out)).mono ?_
  rintro e w9 ⟨rfl, hb⟩
  replace NN := Lib.hid (Bgo NN.out hb)
  replace G := Lib.hid (blk_next hb G.out)
  clear hb
  go_wp2_with fail
  go_ret
  exact ⟨rfl, NN.out⟩
 by_cases h2 : k < 0
 ·have d0 : decide (i < 0) = false := decide_eq_false h0
  have d1 : decide (j < 0) = false := decide_eq_false h1
  have d2 : decide (k < 0) = true := decide_eq_true h2
  clear hp h0 h1 h2
  go_enter Tryz.func4, Tryz.ntmps4
  go_wp2_with fail
  have G : Hid ((w.alloc (.cells #[.int .i64 A, .int .i64 B] 23)).heap[w.heap.size]? = some (.cells #[.int .i64 A, .int .i64 B] 23)) := Lib.hid (blk_new w _)
  replace NN : Hid (Below w.heap.size w (w.alloc (.cells #[.int .i64 A, .int .i64 B] 23))) := Lib.hid (Bal NN.out _)
  generalize (w.alloc (.cells #[.int .i64 A, .int .i64 B] 23)) = W10 at *
  have c_G_0 := blk_cell G.out 0 _ rfl
  have f_G_0 := blk_frozen G.out 0
  have c_G_1 := blk_cell G.out 1 _ rfl
  have f_G_1 := blk_frozen G.out 1
  have l_G := blk_lt G.out
  clear c_G_0 f_G_0 c_G_1 f_G_1 l_G
  refine (FC.out _ NN.out).mono ?_
  rintro e w11 ⟨rfl, hb⟩
  replace NN := Lib.hid (Bgo NN.out hb)
  replace G := Lib.hid (blk_next hb G.out)
  clear hb
  go_wp2_with fail
  refine (alive_calls _ (GG.out.next NN.out)).mono ?_
  rintro e w12 ⟨rfl, hb⟩
  replace NN := Lib.hid (Bgo NN.out hb)
  replace G := Lib.hid (blk_next hb G.out)
  clear hb
  go_wp2_with fail
  go_ret
  exact ⟨rfl, NN.out⟩
 by_cases h3 : (l.length : Int) ≤ i
 ·have d0 : decide (i < 0) = false := decide_eq_false h0
  have d1 : decide (j < 0) = false := decide_eq_false h1
  have d2 : decide (k < 0) = false := decide_eq_false h2
  have d3 : decide ((l.length : Int) ≤ i) = true := decide_eq_true h3
  clear hp h0 h1 h2 h3
  go_enter Tryz.func4, Tryz.ntmps4
  go_wp2_with fail
  have G : Hid ((w.alloc (.cells #[.int .i64 A, .int .i64 B] 23)).heap[w.heap.size]? = some (.cells #[.int .i64 A, .int .i64 B] 23)) := Lib.hid (blk_new w _)
  replace NN : Hid (Below w.heap.size w (w.alloc (.cells #[.int .i64 A, .int .i64 B] 23))) := Lib.hid (Bal NN.out _)
  generalize (w.alloc (.cells #[.int .i64 A, .int .i64 B] 23)) = W13 at *
  have c_G_0 := blk_cell G.out 0 _ rfl
  have f_G_0 := blk_frozen G.out 0
  have c_G_1 := blk_cell G.out 1 _ rfl
  have f_G_1 := blk_frozen G.out 1
  have l_G := blk_lt G.out
  clear c_G_0 f_G_0 c_G_1 f_G_1 l_G
  refine (FC.out _ NN.out).mono ?_
  rintro e w14 ⟨rfl, hb⟩
  replace NN := Lib.hid (Bgo NN.out hb)
  replace G := Lib.hid (blk_next hb G.out)
  clear hb
  go_wp2_with fail
  refine (alive_calls _ (GG.out.next NN.out)).mono ?_
  rintro e w15 ⟨rfl, hb⟩
  replace NN := Lib.hid (Bgo NN.out hb)
  replace G := Lib.hid (blk_next hb G.out)
  clear hb
  go_wp2_with fail
  go_ret
  exact ⟨rfl, NN.out⟩
 by_cases h4 : (l.length : Int) ≤ j
 ·have d0 : decide (i < 0) = false := decide_eq_false h0
  have d1 : decide (j < 0) = false := decide_eq_false h1
  have d2 : decide (k < 0) = false := decide_eq_false h2
  have d3 : decide ((l.length : Int) ≤ i) = false := decide_eq_false h3
  have d4 : decide ((l.length : Int) ≤ j) = true := decide_eq_true h4
  clear hp h0 h1 h2 h3 h4
  go_enter Tryz.func4, Tryz.ntmps4
  go_wp2_with fail
  have G : Hid ((w.alloc (.cells #[.int .i64 A, .int .i64 B] 23)).heap[w.heap.size]? = some (.cells #[.int .i64 A, .int .i64 B] 23)) := Lib.hid (blk_new w _)
  replace NN : Hid (Below w.heap.size w (w.alloc (.cells #[.int .i64 A, .int .i64 B] 23))) := Lib.hid (Bal NN.out _)
  generalize (w.alloc (.cells #[.int .i64 A, .int .i64 B] 23)) = W16 at *
  have c_G_0 := blk_cell G.out 0 _ rfl
  have f_G_0 := blk_frozen G.out 0
  have c_G_1 := blk_cell G.out 1 _ rfl
  have f_G_1 := blk_frozen G.out 1
  have l_G := blk_lt G.out
  clear c_G_0 f_G_0 c_G_1 f_G_1 l_G
  refine (FC.out _ NN.out).mono ?_
  rintro e w17 ⟨rfl, hb⟩
  replace NN := Lib.hid (Bgo NN.out hb)
  replace G := Lib.hid (blk_next hb G.out)
  clear hb
  go_wp2_with fail
  refine (alive_calls _ (GG.out.next NN.out)).mono ?_
  rintro e w18 ⟨rfl, hb⟩
  replace NN := Lib.hid (Bgo NN.out hb)
  replace G := Lib.hid (blk_next hb G.out)
  clear hb
  go_wp2_with fail
  go_ret
  exact ⟨rfl, NN.out⟩
 by_cases h5 : (l.length : Int) ≤ k
 ·have d0 : decide (i < 0) = false := decide_eq_false h0
  have d1 : decide (j < 0) = false := decide_eq_false h1
  have d2 : decide (k < 0) = false := decide_eq_false h2
  have d3 : decide ((l.length : Int) ≤ i) = false := decide_eq_false h3
  have d4 : decide ((l.length : Int) ≤ j) = false := decide_eq_false h4
  have d5 : decide ((l.length : Int) ≤ k) = true := decide_eq_true h5
  clear hp h0 h1 h2 h3 h4 h5
  go_enter Tryz.func4, Tryz.ntmps4
  go_wp2_with fail
  have G : Hid ((w.alloc (.cells #[.int .i64 A, .int .i64 B] 23)).heap[w.heap.size]? = some (.cells #[.int .i64 A, .int .i64 B] 23)) := Lib.hid (blk_new w _)
  replace NN : Hid (Below w.heap.size w (w.alloc (.cells #[.int .i64 A, .int .i64 B] 23))) := Lib.hid (Bal NN.out _)
  generalize (w.alloc (.cells #[.int .i64 A, .int .i64 B] 23)) = W19 at *
  have c_G_0 := blk_cell G.out 0 _ rfl
  have f_G_0 := blk_frozen G.out 0
  have c_G_1 := blk_cell G.out 1 _ rfl
  have f_G_1 := blk_frozen G.out 1
  have l_G := blk_lt G.out
  clear c_G_0 f_G_0 c_G_1 f_G_1 l_G
  refine (FC.out _ NN.out).mono ?_
  rintro e w20 ⟨rfl, hb⟩
  replace NN := Lib.hid (Bgo NN.out hb)
  replace G := Lib.hid (blk_next hb G.out)
  clear hb
  go_wp2_with fail
  refine (alive_calls _ (GG.out.next NN.out)).mono ?_
  rintro e w21 ⟨rfl, hb⟩
  replace NN := Lib.hid (Bgo NN.out hb)
  replace G := Lib.hid (blk_next hb G.out)
  clear hb
  go_wp2_with fail
  go_ret
  exact ⟨rfl, NN.out⟩
 obtain ⟨i, rfl⟩ := Int.eq_ofNat_of_zero_le (show 0 ≤ i by omega)
 obtain ⟨j, rfl⟩ := Int.eq_ofNat_of_zero_le (show 0 ≤ j by omega)
 obtain ⟨k, rfl⟩ := Int.eq_ofNat_of_zero_le (show 0 ≤ k by omega)
 have d0 : decide ((i : Int) < 0) = false := decide_eq_false (by omega)
 have d1 : decide ((j : Int) < 0) = false := decide_eq_false (by omega)
 have d2 : decide ((k : Int) < 0) = false := decide_eq_false (by omega)
 have d3 : decide ((l.length : Int) ≤ (i : Int)) = false := decide_eq_false (by omega)
 have d4 : decide ((l.length : Int) ≤ (j : Int)) = false := decide_eq_false (by omega)
 have d5 : decide ((l.length : Int) ≤ (k : Int)) = false := decide_eq_false (by omega)
 have n3 : (l.length ≤ i) = False := by simp; omega
 have n4 : (l.length ≤ j) = False := by simp; omega
 have n5 : (l.length ≤ k) = False := by simp; omega
 obtain ⟨s, hs⟩ := get_some (show i < l.length by omega)
 obtain ⟨t, ht⟩ := get_some (show j < l.length by omega)
 obtain ⟨u, hu⟩ := get_some (show k < l.length by omega)
 have LO := fun (x y : St) (hx : x ∈ l) (hy : y ∈ l) => line_ok hp hx hy
 have ms := List.mem_of_getElem? hs
 have mt := List.mem_of_getElem? ht
 have mu := List.mem_of_getElem? hu
 have S1 := Lib.hid (LO s t ms mt)
 have S2 := Lib.hid (LO t u mt mu)
 have S3 := Lib.hid (LO s u ms mu)
 have S4 := Lib.hid (LO t s mt ms)
 have L1 := Lib.hid (li_ok hp hs ht)
 have L2 := Lib.hid (li_ok hp ht hu)
 have L3 := Lib.hid (li_ok hp hs hu)
 have L4 := Lib.hid (li_ok hp ht hs)
 have EQ := Lib.hid (fun (e : plV A B t = plV A B s) => idx_of hp ht hs e)
 have EQ2 := Lib.hid (fun (e : i = j) => (by subst e; rw [hs] at ht; injection ht with e2; rw [e2] : plV A B t = plV A B s))
 clear LO ms mt mu hs ht hu hp h0 h1 h2 h3 h4 h5
 generalize plV A B s = p at *
 generalize plV A B t = q at *
 generalize plV A B u = r at *
 have A1 := Lib.hid (fun (W : World) (hb : Below w.heap.size w W) => by have h := aline_calls i j (A := A) (B := B) (HL.out.next hb) hc hc' HN.out; rw [L1.out.1, L1.out.2] at h; exact h)
 have A2 := Lib.hid (fun (W : World) (hb : Below w.heap.size w W) => by have h := aline_calls j k (A := A) (B := B) (HL.out.next hb) hc hc' HN.out; rw [L2.out.1, L2.out.2] at h; exact h)
 have A3 := Lib.hid (fun (W : World) (hb : Below w.heap.size w W) => by have h := aline_calls i k (A := A) (B := B) (HL.out.next hb) hc hc' HN.out; rw [L3.out.1, L3.out.2] at h; exact h)
 have A4 := Lib.hid (fun (W : World) (hb : Below w.heap.size w W) => by have h := aline_calls j i (A := A) (B := B) (HL.out.next hb) hc hc' HN.out; rw [L4.out.1, L4.out.2] at h; exact h)
 clear L1 L2 L3 L4
 have SW : Hid (decide (subV q p = negV (subV p q)) = true) := Lib.hid (decide_eq_true (subV_swap S4.out))
 have AD := Lib.hid (subV_add S1.out S2.out S3.out)
 have OKD := Lib.hid (subV_ok S4.out)
 have ZR : Hid (decide (subV q p = ⟨0, 1, 0, 1, 0, 1⟩) = decide (i = j)) := Lib.hid (decide_eq_decide.2 ⟨fun e => (EQ.out (subV_zero S1.out e)).symm, fun e => by rw [EQ2.out e]; exact subV_self S1.out.ou⟩)
 clear EQ EQ2 S1 S2 S3 S4
 generalize subV q p = va at *
 generalize subV r q = vb at *
 generalize subV r p = vc at *
 generalize subV p q = vd at *
 go_enter Tryz.func4, Tryz.ntmps4
 go_wp2_with fail
 have G : Hid ((w.alloc (.cells #[.int .i64 A, .int .i64 B] 23)).heap[w.heap.size]? = some (.cells #[.int .i64 A, .int .i64 B] 23)) := Lib.hid (blk_new w _)
 replace NN : Hid (Below w.heap.size w (w.alloc (.cells #[.int .i64 A, .int .i64 B] 23))) := Lib.hid (Bal NN.out _)
 generalize (w.alloc (.cells #[.int .i64 A, .int .i64 B] 23)) = W22 at *
 have c_G_0 := blk_cell G.out 0 _ rfl
 have f_G_0 := blk_frozen G.out 0
 have c_G_1 := blk_cell G.out 1 _ rfl
 have f_G_1 := blk_frozen G.out 1
 have l_G := blk_lt G.out
 clear c_G_0 f_G_0 c_G_1 f_G_1 l_G
 refine (FC.out _ NN.out).mono ?_
 rintro e w23 ⟨rfl, hb⟩
 replace NN := Lib.hid (Bgo NN.out hb)
 replace G := Lib.hid (blk_next hb G.out)
 clear hb
 have c_G_0 := blk_cell G.out 0 _ rfl
 have f_G_0 := blk_frozen G.out 0
 have c_G_1 := blk_cell G.out 1 _ rfl
 have f_G_1 := blk_frozen G.out 1
 have l_G := blk_lt G.out
 go_wp2_with fail
 clear c_G_0 f_G_0 c_G_1 f_G_1 l_G
 refine (A1.out _ NN.out).mono ?_
 rintro e w24 ⟨rfl, hb⟩
 replace NN := Lib.hid (Bgo NN.out hb)
 replace G := Lib.hid (blk_next hb G.out)
 clear hb
 have HB := Lib.hid (show Below w24.heap.size w24 (w24.alloc (.cells #[.int .i64 va.x1, .int .i64 va.x2, .int .i64 va.y1, .int .i64 va.y2, .int .i64 va.z1, .int .i64 va.z2] 38)) from (Bal (Below.refl _ _) _))
 have Vva : Hid ((w24.alloc (.cells #[.int .i64 va.x1, .int .i64 va.x2, .int .i64 va.y1, .int .i64 va.y2, .int .i64 va.z1, .int .i64 va.z2] 38)).heap[w24.heap.size]? = some (.cells #[.int .i64 va.x1, .int .i64 va.x2, .int .i64 va.y1, .int .i64 va.y2, .int .i64 va.z1, .int .i64 va.z2] 38)) := Lib.hid (blk_new w24 _)
 have LT_Vva : Hid (w.heap.size < w24.heap.size ∧ w.heap.size ≤ w24.heap.size) := Lib.hid ⟨blk_lt G.out, NN.out.size⟩
 replace NN := Lib.hid (Bgo NN.out HB.out)
 replace G := Lib.hid (blk_next HB.out G.out)
 clear HB
 have c_G_0 := blk_cell G.out 0 _ rfl
 have f_G_0 := blk_frozen G.out 0
 have c_G_1 := blk_cell G.out 1 _ rfl
 have f_G_1 := blk_frozen G.out 1
 have l_G := blk_lt G.out
 go_wp2_with fail
 clear c_G_0 f_G_0 c_G_1 f_G_1 l_G
 generalize (w24.alloc (.cells #[.int .i64 va.x1, .int .i64 va.x2, .int .i64 va.y1, .int .i64 va.y2, .int .i64 va.z1, .int .i64 va.z2] 38)) = W25 at *
 generalize w24.heap.size = gva at *
 refine (A2.out _ NN.out).mono ?_
 rintro e w26 ⟨rfl, hb⟩
 replace NN := Lib.hid (Bgo NN.out hb)
 replace G := Lib.hid (blk_next hb G.out)
 replace Vva := Lib.hid (blk_next hb Vva.out)
 clear hb
 have HB := Lib.hid (show Below w26.heap.size w26 (w26.alloc (.cells #[.int .i64 vb.x1, .int .i64 vb.x2, .int .i64 vb.y1, .int .i64 vb.y2, .int .i64 vb.z1, .int .i64 vb.z2] 38)) from (Bal (Below.refl _ _) _))
 have Vvb : Hid ((w26.alloc (.cells #[.int .i64 vb.x1, .int .i64 vb.x2, .int .i64 vb.y1, .int .i64 vb.y2, .int .i64 vb.z1, .int .i64 vb.z2] 38)).heap[w26.heap.size]? = some (.cells #[.int .i64 vb.x1, .int .i64 vb.x2, .int .i64 vb.y1, .int .i64 vb.y2, .int .i64 vb.z1, .int .i64 vb.z2] 38)) := Lib.hid (blk_new w26 _)
 have LT_Vvb : Hid (w.heap.size < w26.heap.size ∧ gva < w26.heap.size ∧ w.heap.size ≤ w26.heap.size) := Lib.hid ⟨blk_lt G.out, blk_lt Vva.out, NN.out.size⟩
 replace NN := Lib.hid (Bgo NN.out HB.out)
 replace G := Lib.hid (blk_next HB.out G.out)
 replace Vva := Lib.hid (blk_next HB.out Vva.out)
 clear HB
 have c_G_0 := blk_cell G.out 0 _ rfl
 have f_G_0 := blk_frozen G.out 0
 have c_G_1 := blk_cell G.out 1 _ rfl
 have f_G_1 := blk_frozen G.out 1
 have l_G := blk_lt G.out
 go_wp2_with fail
 clear c_G_0 f_G_0 c_G_1 f_G_1 l_G
 generalize (w26.alloc (.cells #[.int .i64 vb.x1, .int .i64 vb.x2, .int .i64 vb.y1, .int .i64 vb.y2, .int .i64 vb.z1, .int .i64 vb.z2] 38)) = W27 at *
 generalize w26.heap.size = gvb at *
 refine (A3.out _ NN.out).mono ?_
 rintro e w28 ⟨rfl, hb⟩
 replace NN := Lib.hid (Bgo NN.out hb)
 replace G := Lib.hid (blk_next hb G.out)
 replace Vva := Lib.hid (blk_next hb Vva.out)
 replace Vvb := Lib.hid (blk_next hb Vvb.out)
 clear hb
 have HB := Lib.hid (show Below w28.heap.size w28 (w28.alloc (.cells #[.int .i64 vc.x1, .int .i64 vc.x2, .int .i64 vc.y1, .int .i64 vc.y2, .int .i64 vc.z1, .int .i64 vc.z2] 38)) from (Bal (Below.refl _ _) _))
 have Vvc : Hid ((w28.alloc (.cells #[.int .i64 vc.x1, .int .i64 vc.x2, .int .i64 vc.y1, .int .i64 vc.y2, .int .i64 vc.z1, .int .i64 vc.z2] 38)).heap[w28.heap.size]? = some (.cells #[.int .i64 vc.x1, .int .i64 vc.x2, .int .i64 vc.y1, .int .i64 vc.y2, .int .i64 vc.z1, .int .i64 vc.z2] 38)) := Lib.hid (blk_new w28 _)
 have LT_Vvc : Hid (w.heap.size < w28.heap.size ∧ gva < w28.heap.size ∧ gvb < w28.heap.size ∧ w.heap.size ≤ w28.heap.size) := Lib.hid ⟨blk_lt G.out, blk_lt Vva.out, blk_lt Vvb.out, NN.out.size⟩
 replace NN := Lib.hid (Bgo NN.out HB.out)
 replace G := Lib.hid (blk_next HB.out G.out)
 replace Vva := Lib.hid (blk_next HB.out Vva.out)
 replace Vvb := Lib.hid (blk_next HB.out Vvb.out)
 clear HB
 have c_G_0 := blk_cell G.out 0 _ rfl
 have f_G_0 := blk_frozen G.out 0
 have c_G_1 := blk_cell G.out 1 _ rfl
 have f_G_1 := blk_frozen G.out 1
 have l_G := blk_lt G.out
 go_wp2_with fail
 clear c_G_0 f_G_0 c_G_1 f_G_1 l_G
 generalize (w28.alloc (.cells #[.int .i64 vc.x1, .int .i64 vc.x2, .int .i64 vc.y1, .int .i64 vc.y2, .int .i64 vc.z1, .int .i64 vc.z2] 38)) = W29 at *
 generalize w28.heap.size = gvc at *
 refine (A4.out _ NN.out).mono ?_
 rintro e w30 ⟨rfl, hb⟩
 replace NN := Lib.hid (Bgo NN.out hb)
 replace G := Lib.hid (blk_next hb G.out)
 replace Vva := Lib.hid (blk_next hb Vva.out)
 replace Vvb := Lib.hid (blk_next hb Vvb.out)
 replace Vvc := Lib.hid (blk_next hb Vvc.out)
 clear hb
 have HB := Lib.hid (show Below w30.heap.size w30 (w30.alloc (.cells #[.int .i64 vd.x1, .int .i64 vd.x2, .int .i64 vd.y1, .int .i64 vd.y2, .int .i64 vd.z1, .int .i64 vd.z2] 38)) from (Bal (Below.refl _ _) _))
 have Vvd : Hid ((w30.alloc (.cells #[.int .i64 vd.x1, .int .i64 vd.x2, .int .i64 vd.y1, .int .i64 vd.y2, .int .i64 vd.z1, .int .i64 vd.z2] 38)).heap[w30.heap.size]? = some (.cells #[.int .i64 vd.x1, .int .i64 vd.x2, .int .i64 vd.y1, .int .i64 vd.y2, .int .i64 vd.z1, .int .i64 vd.z2] 38)) := Lib.hid (blk_new w30 _)
 have LT_Vvd : Hid (w.heap.size < w30.heap.size ∧ gva < w30.heap.size ∧ gvb < w30.heap.size ∧ gvc < w30.heap.size ∧ w.heap.size ≤ w30.heap.size) := Lib.hid ⟨blk_lt G.out, blk_lt Vva.out, blk_lt Vvb.out, blk_lt Vvc.out, NN.out.size⟩
 replace NN := Lib.hid (Bgo NN.out HB.out)
 replace G := Lib.hid (blk_next HB.out G.out)
 replace Vva := Lib.hid (blk_next HB.out Vva.out)
 replace Vvb := Lib.hid (blk_next HB.out Vvb.out)
 replace Vvc := Lib.hid (blk_next HB.out Vvc.out)
 clear HB
 have c_G_0 := blk_cell G.out 0 _ rfl
 have f_G_0 := blk_frozen G.out 0
 have c_G_1 := blk_cell G.out 1 _ rfl
 have f_G_1 := blk_frozen G.out 1
 have l_G := blk_lt G.out
 go_wp2_with fail
 clear c_G_0 f_G_0 c_G_1 f_G_1 l_G
 generalize (w30.alloc (.cells #[.int .i64 vd.x1, .int .i64 vd.x2, .int .i64 vd.y1, .int .i64 vd.y2, .int .i64 vd.z1, .int .i64 vd.z2] 38)) = W31 at *
 generalize w30.heap.size = gvd at *
 have hsw := SW.out
 have HDRW := Lib.hid (Below.drew (Below.refl W31.heap.size W31))
 replace NN := Lib.hid (Bgo NN.out HDRW.out)
 replace G := Lib.hid (blk_next HDRW.out G.out)
 replace Vva := Lib.hid (blk_next HDRW.out Vva.out)
 replace Vvb := Lib.hid (blk_next HDRW.out Vvb.out)
 replace Vvc := Lib.hid (blk_next HDRW.out Vvc.out)
 replace Vvd := Lib.hid (blk_next HDRW.out Vvd.out)
 clear HDRW
 have HAL : Hid (∀ kx9 : Nat, GK [(15, gva, .cells #[.int .i64 va.x1, .int .i64 va.x2, .int .i64 va.y1, .int .i64 va.y2, .int .i64 va.z1, .int .i64 va.z2] 38), (16, gvd, .cells #[.int .i64 vd.x1, .int .i64 vd.x2, .int .i64 vd.y1, .int .i64 vd.y2, .int .i64 vd.z1, .int .i64 vd.z2] 38)] kx9 W31.drew) := Lib.hid (fun kx9 => fun px9 hp e => by
  simp only [List.mem_cons, List.not_mem_nil, or_false] at hp
  rcases hp with rfl | rfl
  ·exact Vva.out
  ·exact Vvd.out
 )
 refine region_G (S := GK [(15, gva, .cells #[.int .i64 va.x1, .int .i64 va.x2, .int .i64 va.y1, .int .i64 va.y2, .int .i64 va.z1, .int .i64 va.z2] 38), (16, gvd, .cells #[.int .i64 vd.x1, .int .i64 vd.x2, .int .i64 vd.y1, .int .i64 vd.y2, .int .i64 vd.z1, .int .i64 vd.z2] 38)]) (by kernel_rfl) ?_
 refine tG 0 (.int .i64 0) (some 88) (GK.grow _) rfl (YieldsIf.toG (Or.inl ⟨by rfl, ?_⟩)) (GK.drop (by simp)) ?_
 ·intro X hX
  clear hX
  go_simp
 try simp only [Act.put, zA, zB, zC]
 refine tG 1 (.bool false) (some 89) (GK.grow _) rfl (YieldsIf.toG (Or.inl ⟨by rfl, ?_⟩)) (GK.drop (by simp)) ?_
 ·intro X hX
  clear hX
  go_simp
 try simp only [Act.put, zA, zB, zC]
 refine tG 2 (.bool false) (some 90) (GK.grow _) rfl (YieldsIf.toG (Or.inl ⟨by rfl, ?_⟩)) (GK.drop (by simp)) ?_
 ·intro X hX
  clear hX
  go_simp
 try simp only [Act.put, zA, zB, zC]
 refine tG 3 (.int .i64 0) (some 91) (GK.grow _) rfl (YieldsIf.toG (Or.inl ⟨by rfl, ?_⟩)) (GK.drop (by simp)) ?_
 ·intro X hX
  clear hX
  go_simp
 try simp only [Act.put, zA, zB, zC]
 refine tG 4 (.bool false) (some 92) (GK.grow _) rfl (YieldsIf.toG (Or.inl ⟨by rfl, ?_⟩)) (GK.drop (by simp)) ?_
 ·intro X hX
  clear hX
  go_simp
 try simp only [Act.put, zA, zB, zC]
 refine tG 5 (.bool false) (some 93) (GK.grow _) rfl (YieldsIf.toG (Or.inl ⟨by rfl, ?_⟩)) (GK.drop (by simp)) ?_
 ·intro X hX
  clear hX
  go_simp
 try simp only [Act.put, zA, zB, zC]
 refine tG 6 (.bool false) (some 94) (GK.grow _) rfl (YieldsIf.toG (Or.inl ⟨by rfl, ?_⟩)) (GK.drop (by simp)) ?_
 ·intro X hX
  clear hX
  go_simp
 try simp only [Act.put, zA, zB, zC]
 refine tG 7 (.int .i64 0) (some 95) (GK.grow _) rfl (YieldsIf.toG (Or.inl ⟨by rfl, ?_⟩)) (GK.drop (by simp)) ?_
 ·intro X hX
  clear hX
  go_simp
 try simp only [Act.put, zA, zB, zC]
 refine tG 8 (.bool false) (some 96) (GK.grow _) rfl (YieldsIf.toG (Or.inl ⟨by rfl, ?_⟩)) (GK.drop (by simp)) ?_
 ·intro X hX
  clear hX
  go_simp
 try simp only [Act.put, zA, zB, zC]
 refine tG 9 (.bool false) (some 97) (GK.grow _) rfl (YieldsIf.toG (Or.inl ⟨by rfl, ?_⟩)) (GK.drop (by simp)) ?_
 ·intro X hX
  clear hX
  go_simp
 try simp only [Act.put, zA, zB, zC]
 refine tG 10 (.bool false) (some 98) (GK.grow _) rfl (YieldsIf.toG (Or.inl ⟨by rfl, ?_⟩)) (GK.drop (by simp)) ?_
 ·intro X hX
  clear hX
  go_simp
 try simp only [Act.put, zA, zB, zC]
 refine tG 11 (.int .i64 0) (some 99) (GK.grow _) rfl (YieldsIf.toG (Or.inl ⟨by rfl, ?_⟩)) (GK.drop (by simp)) ?_
 ·intro X hX
  clear hX
  go_simp
 try simp only [Act.put, zA, zB, zC]
 refine tG 12 (.bool false) (some 100) (GK.grow _) rfl (YieldsIf.toG (Or.inl ⟨by rfl, ?_⟩)) (GK.drop (by simp)) ?_
 ·intro X hX
  clear hX
  go_simp
 try simp only [Act.put, zA, zB, zC]
 refine tG 13 (.bool false) (some 101) (GK.grow _) rfl (YieldsIf.toG (Or.inl ⟨by rfl, ?_⟩)) (GK.drop (by simp)) ?_
 ·intro X hX
  clear hX
  go_simp
 try simp only [Act.put, zA, zB, zC]
 refine tG 14 (.bool false) (some 102) (GK.grow _) rfl (YieldsIf.toG (Or.inl ⟨by rfl, ?_⟩)) (GK.drop (by simp)) ?_
 ·intro X hX
  clear hX
  go_simp
 try simp only [Act.put, zA, zB, zC]
 refine tG 15 (.agg #[.int .i64 va.x1, .int .i64 va.x2, .int .i64 va.y1, .int .i64 va.y2, .int .i64 va.z1, .int .i64 va.z2]) (some 103) (GK.grow _) rfl (YieldsIf.toG (Or.inl ⟨by rfl, ?_⟩)) (HAL.out 15) ?_
 ·intro X hX
  have hh := hX (15, gva, .cells #[.int .i64 va.x1, .int .i64 va.x2, .int .i64 va.y1, .int .i64 va.y2, .int .i64 va.z1, .int .i64 va.z2] 38) (List.Mem.head _) rfl
  have hh0 := blk_cell hh 0 _ rfl
  have hh1 := blk_cell hh 1 _ rfl
  have hh2 := blk_cell hh 2 _ rfl
  have hh3 := blk_cell hh 3 _ rfl
  have hh4 := blk_cell hh 4 _ rfl
  have hh5 := blk_cell hh 5 _ rfl
  have hhl := blk_lt hh
  clear hh
  clear hX
  go_simp
 try simp only [Act.put, zA, zB, zC]
 refine tG 16 (.agg #[.int .i64 vd.x1, .int .i64 vd.x2, .int .i64 vd.y1, .int .i64 vd.y2, .int .i64 vd.z1, .int .i64 vd.z2]) (some 104) (GK.grow _) rfl (YieldsIf.toG (Or.inl ⟨by rfl, ?_⟩)) (HAL.out 16) ?_
 ·intro X hX
  have hh := hX (16, gvd, .cells #[.int .i64 vd.x1, .int .i64 vd.x2, .int .i64 vd.y1, .int .i64 vd.y2, .int .i64 vd.z1, .int .i64 vd.z2] 38) (List.Mem.tail _ (List.Mem.head _)) rfl
  have hh0 := blk_cell hh 0 _ rfl
  have hh1 := blk_cell hh 1 _ rfl
  have hh2 := blk_cell hh 2 _ rfl
  have hh3 := blk_cell hh 3 _ rfl
  have hh4 := blk_cell hh 4 _ rfl
  have hh5 := blk_cell hh 5 _ rfl
  have hhl := blk_lt hh
  clear hh
  clear hX
  go_simp
 try simp only [Act.put, zA, zB, zC]
 have CFn : ∀ (args : Array Value) (W : World), Sem.run Tryz.prog (callFunc 12 args) W = .ok (.enter 12 args) W := fun _ _ => by kernel_rfl
 refine tG 17 (.agg #[.int .i64 (negV vd).x1, .int .i64 (negV vd).x2, .int .i64 (negV vd).y1, .int .i64 (negV vd).y2, .int .i64 (negV vd).z1, .int .i64 (negV vd).z2]) (some 105) (GK.grow _) rfl (yieldsG_call 12 #[.agg #[.int .i64 vd.x1, .int .i64 vd.x2, .int .i64 vd.y1, .int .i64 vd.y2, .int .i64 vd.z1, .int .i64 vd.z2]] (by rfl) ?_ (fun X hS => rvneg_calls vd OKD.out X)) (GK.drop (by simp)) ?_
 ·intro X hX
  clear hX
  go_simp
 clear CFn
 try simp only [Act.put, zA, zB, zC]
 refine tG 18 (.bool false) (some 106) (GK.grow _) rfl (YieldsIf.toG (Or.inl ⟨by rfl, ?_⟩)) (GK.drop (by simp)) ?_
 ·intro X hX
  clear hX
  go_simp
 try simp only [Act.put, zA, zB, zC]
 refine tG 19 (.bool false) (some 107) (GK.grow _) rfl (YieldsIf.toG (Or.inl ⟨by rfl, ?_⟩)) (GK.drop (by simp)) ?_
 ·intro X hX
  clear hX
  go_simp
 try simp only [Act.put, zA, zB, zC]
 clear HAL
 refine done_G (by kernel_rfl) (fun X32 hX => ?_) _
 replace NN := Lib.hid (Bgo NN.out hX)
 replace G := Lib.hid (blk_next hX G.out)
 replace Vva := Lib.hid (blk_next hX Vva.out)
 replace Vvb := Lib.hid (blk_next hX Vvb.out)
 replace Vvc := Lib.hid (blk_next hX Vvc.out)
 replace Vvd := Lib.hid (blk_next hX Vvd.out)
 clear hX
 clear hsw
 have VA := Lib.hid (fun W => by have h := vadd_calls va vb AD.out.1 W; rw [AD.out.2] at h; exact h)
 have c_Vva_0 := blk_cell Vva.out 0 _ rfl
 have f_Vva_0 := blk_frozen Vva.out 0
 have c_Vva_1 := blk_cell Vva.out 1 _ rfl
 have f_Vva_1 := blk_frozen Vva.out 1
 have c_Vva_2 := blk_cell Vva.out 2 _ rfl
 have f_Vva_2 := blk_frozen Vva.out 2
 have c_Vva_3 := blk_cell Vva.out 3 _ rfl
 have f_Vva_3 := blk_frozen Vva.out 3
 have c_Vva_4 := blk_cell Vva.out 4 _ rfl
 have f_Vva_4 := blk_frozen Vva.out 4
 have c_Vva_5 := blk_cell Vva.out 5 _ rfl
 have f_Vva_5 := blk_frozen Vva.out 5
 have l_Vva := blk_lt Vva.out
 have c_Vvb_0 := blk_cell Vvb.out 0 _ rfl
 have f_Vvb_0 := blk_frozen Vvb.out 0
 have c_Vvb_1 := blk_cell Vvb.out 1 _ rfl
 have f_Vvb_1 := blk_frozen Vvb.out 1
 have c_Vvb_2 := blk_cell Vvb.out 2 _ rfl
 have f_Vvb_2 := blk_frozen Vvb.out 2
 have c_Vvb_3 := blk_cell Vvb.out 3 _ rfl
 have f_Vvb_3 := blk_frozen Vvb.out 3
 have c_Vvb_4 := blk_cell Vvb.out 4 _ rfl
 have f_Vvb_4 := blk_frozen Vvb.out 4
 have c_Vvb_5 := blk_cell Vvb.out 5 _ rfl
 have f_Vvb_5 := blk_frozen Vvb.out 5
 have l_Vvb := blk_lt Vvb.out
 go_wp2_with fail
 clear c_Vva_0 f_Vva_0 c_Vva_1 f_Vva_1 c_Vva_2 f_Vva_2 c_Vva_3 f_Vva_3 c_Vva_4 f_Vva_4 c_Vva_5 f_Vva_5 l_Vva c_Vvb_0 f_Vvb_0 c_Vvb_1 f_Vvb_1 c_Vvb_2 f_Vvb_2 c_Vvb_3 f_Vvb_3 c_Vvb_4 f_Vvb_4 c_Vvb_5 f_Vvb_5 l_Vvb
 refine (VA.out _).mono ?_
 rintro e w33 ⟨rfl, hb⟩
 replace NN := Lib.hid (Bgo NN.out hb)
 replace G := Lib.hid (blk_next hb G.out)
 replace Vva := Lib.hid (blk_next hb Vva.out)
 replace Vvb := Lib.hid (blk_next hb Vvb.out)
 replace Vvc := Lib.hid (blk_next hb Vvc.out)
 replace Vvd := Lib.hid (blk_next hb Vvd.out)
 clear hb
 have HB := Lib.hid (show Below w33.heap.size w33 (w33.alloc (.cells #[.int .i64 vc.x1, .int .i64 vc.x2, .int .i64 vc.y1, .int .i64 vc.y2, .int .i64 vc.z1, .int .i64 vc.z2] 38)) from (Bal (Below.refl _ _) _))
 have Vs : Hid ((w33.alloc (.cells #[.int .i64 vc.x1, .int .i64 vc.x2, .int .i64 vc.y1, .int .i64 vc.y2, .int .i64 vc.z1, .int .i64 vc.z2] 38)).heap[w33.heap.size]? = some (.cells #[.int .i64 vc.x1, .int .i64 vc.x2, .int .i64 vc.y1, .int .i64 vc.y2, .int .i64 vc.z1, .int .i64 vc.z2] 38)) := Lib.hid (blk_new w33 _)
 have LT_Vs : Hid (w.heap.size < w33.heap.size ∧ gva < w33.heap.size ∧ gvb < w33.heap.size ∧ gvc < w33.heap.size ∧ gvd < w33.heap.size ∧ w.heap.size ≤ w33.heap.size) := Lib.hid ⟨blk_lt G.out, blk_lt Vva.out, blk_lt Vvb.out, blk_lt Vvc.out, blk_lt Vvd.out, NN.out.size⟩
 replace NN := Lib.hid (Bgo NN.out HB.out)
 replace G := Lib.hid (blk_next HB.out G.out)
 replace Vva := Lib.hid (blk_next HB.out Vva.out)
 replace Vvb := Lib.hid (blk_next HB.out Vvb.out)
 replace Vvc := Lib.hid (blk_next HB.out Vvc.out)
 replace Vvd := Lib.hid (blk_next HB.out Vvd.out)
 clear HB
 have c_Vva_0 := blk_cell Vva.out 0 _ rfl
 have f_Vva_0 := blk_frozen Vva.out 0
 have c_Vva_1 := blk_cell Vva.out 1 _ rfl
 have f_Vva_1 := blk_frozen Vva.out 1
 have c_Vva_2 := blk_cell Vva.out 2 _ rfl
 have f_Vva_2 := blk_frozen Vva.out 2
 have c_Vva_3 := blk_cell Vva.out 3 _ rfl
 have f_Vva_3 := blk_frozen Vva.out 3
 have c_Vva_4 := blk_cell Vva.out 4 _ rfl
 have f_Vva_4 := blk_frozen Vva.out 4
 have c_Vva_5 := blk_cell Vva.out 5 _ rfl
 have f_Vva_5 := blk_frozen Vva.out 5
 have l_Vva := blk_lt Vva.out
 go_wp2_with fail
 clear c_Vva_0 f_Vva_0 c_Vva_1 f_Vva_1 c_Vva_2 f_Vva_2 c_Vva_3 f_Vva_3 c_Vva_4 f_Vva_4 c_Vva_5 f_Vva_5 l_Vva
 generalize (w33.alloc (.cells #[.int .i64 vc.x1, .int .i64 vc.x2, .int .i64 vc.y1, .int .i64 vc.y2, .int .i64 vc.z1, .int .i64 vc.z2] 38)) = W34 at *
 generalize w33.heap.size = gs at *
 obtain ⟨zz, hzz⟩ : ∃ z : V6, z = ⟨0, 1, 0, 1, 0, 1⟩ := ⟨_, rfl⟩
 have ZC := Lib.hid (fun W => by have h := lof_calls 0 0 0 W; rw [← hzz] at h; exact h)
 rw [← hzz] at ZR
 clear hzz
 have GX := Lib.hid (GG.out.next NN.out)
 by_cases hij : i = j
 ·subst hij
  have dz : decide (va = zz) = true := by rw [ZR.out]; simp
  have HDRW := Lib.hid (Below.drew (Below.refl W34.heap.size W34))
  replace NN := Lib.hid (Bgo NN.out HDRW.out)
  replace G := Lib.hid (blk_next HDRW.out G.out)
  replace Vva := Lib.hid (blk_next HDRW.out Vva.out)
  replace Vvb := Lib.hid (blk_next HDRW.out Vvb.out)
  replace Vvc := Lib.hid (blk_next HDRW.out Vvc.out)
  replace Vvd := Lib.hid (blk_next HDRW.out Vvd.out)
  replace Vs := Lib.hid (blk_next HDRW.out Vs.out)
  clear HDRW
  have HAL : Hid (∀ kx9 : Nat, GB [(3, gs, .cells #[.int .i64 vc.x1, .int .i64 vc.x2, .int .i64 vc.y1, .int .i64 vc.y2, .int .i64 vc.z1, .int .i64 vc.z2] 38), (4, gvc, .cells #[.int .i64 vc.x1, .int .i64 vc.x2, .int .i64 vc.y1, .int .i64 vc.y2, .int .i64 vc.z1, .int .i64 vc.z2] 38), (8, gva, .cells #[.int .i64 va.x1, .int .i64 va.x2, .int .i64 va.y1, .int .i64 va.y2, .int .i64 va.z1, .int .i64 va.z2] 38)] W34.drew kx9 W34.drew) := Lib.hid (fun kx9 => ⟨fun px9 hp e => by
   simp only [List.mem_cons, List.not_mem_nil, or_false] at hp
   rcases hp with rfl | rfl | rfl
   ·exact Vs.out
   ·exact Vvc.out
   ·exact Vva.out
  , Below.refl _ _⟩)
  refine region_G (S := GB [(3, gs, .cells #[.int .i64 vc.x1, .int .i64 vc.x2, .int .i64 vc.y1, .int .i64 vc.y2, .int .i64 vc.z1, .int .i64 vc.z2] 38), (4, gvc, .cells #[.int .i64 vc.x1, .int .i64 vc.x2, .int .i64 vc.y1, .int .i64 vc.y2, .int .i64 vc.z1, .int .i64 vc.z2] 38), (8, gva, .cells #[.int .i64 va.x1, .int .i64 va.x2, .int .i64 va.y1, .int .i64 va.y2, .int .i64 va.z1, .int .i64 va.z2] 38)] W34.drew) (by kernel_rfl) ?_
  refine tG 0 (.int .i64 0) (some 114) GB.grow rfl (YieldsIf.toG (Or.inl ⟨by rfl, ?_⟩)) (HAL.out 0) ?_
  ·intro X hX
   clear hX
   go_simp
  try simp only [Act.put, zA, zB, zC]
  refine tG 1 (.bool true) (some 115) GB.grow rfl (YieldsIf.toG (Or.inl ⟨by rfl, ?_⟩)) (HAL.out 1) ?_
  ·intro X hX
   clear hX
   go_simp
  try simp only [Act.put, zA, zB, zC]
  refine tG 2 (.bool true) (some 116) GB.grow rfl (YieldsIf.toG (Or.inl ⟨by rfl, ?_⟩)) (HAL.out 2) ?_
  ·intro X hX
   clear hX
   go_simp
  try simp only [Act.put, zA, zB, zC]
  refine tG 3 (.agg #[.int .i64 vc.x1, .int .i64 vc.x2, .int .i64 vc.y1, .int .i64 vc.y2, .int .i64 vc.z1, .int .i64 vc.z2]) (some 117) GB.grow rfl (YieldsIf.toG (Or.inl ⟨by rfl, ?_⟩)) (HAL.out 3) ?_
  ·intro X hX
   have hh := hX.1 (3, gs, .cells #[.int .i64 vc.x1, .int .i64 vc.x2, .int .i64 vc.y1, .int .i64 vc.y2, .int .i64 vc.z1, .int .i64 vc.z2] 38) (List.Mem.head _) rfl
   have hh0 := blk_cell hh 0 _ rfl
   have hh1 := blk_cell hh 1 _ rfl
   have hh2 := blk_cell hh 2 _ rfl
   have hh3 := blk_cell hh 3 _ rfl
   have hh4 := blk_cell hh 4 _ rfl
   have hh5 := blk_cell hh 5 _ rfl
   have hhl := blk_lt hh
   clear hh
   clear hX
   go_simp
  try simp only [Act.put, zA, zB, zC]
  refine tG 4 (.agg #[.int .i64 vc.x1, .int .i64 vc.x2, .int .i64 vc.y1, .int .i64 vc.y2, .int .i64 vc.z1, .int .i64 vc.z2]) (some 118) GB.grow rfl (YieldsIf.toG (Or.inl ⟨by rfl, ?_⟩)) (HAL.out 4) ?_
  ·intro X hX
   have hh := hX.1 (4, gvc, .cells #[.int .i64 vc.x1, .int .i64 vc.x2, .int .i64 vc.y1, .int .i64 vc.y2, .int .i64 vc.z1, .int .i64 vc.z2] 38) (List.Mem.tail _ (List.Mem.head _)) rfl
   have hh0 := blk_cell hh 0 _ rfl
   have hh1 := blk_cell hh 1 _ rfl
   have hh2 := blk_cell hh 2 _ rfl
   have hh3 := blk_cell hh 3 _ rfl
   have hh4 := blk_cell hh 4 _ rfl
   have hh5 := blk_cell hh 5 _ rfl
   have hhl := blk_lt hh
   clear hh
   clear hX
   go_simp
  try simp only [Act.put, zA, zB, zC]
  refine tG 5 (.bool true) (some 119) GB.grow rfl (YieldsIf.toG (Or.inl ⟨by rfl, ?_⟩)) (HAL.out 5) ?_
  ·intro X hX
   clear hX
   go_simp
  try simp only [Act.put, zA, zB, zC]
  refine tG 6 (.bool true) (some 120) GB.grow rfl (YieldsIf.toG (Or.inl ⟨by rfl, ?_⟩)) (HAL.out 6) ?_
  ·intro X hX
   clear hX
   go_simp
  try simp only [Act.put, zA, zB, zC]
  refine tG 7 (.bool true) (some 121) GB.grow rfl (YieldsIf.toG (Or.inl ⟨by rfl, ?_⟩)) (HAL.out 7) ?_
  ·intro X hX
   clear hX
   go_simp
  try simp only [Act.put, zA, zB, zC]
  refine tG 8 (.agg #[.int .i64 va.x1, .int .i64 va.x2, .int .i64 va.y1, .int .i64 va.y2, .int .i64 va.z1, .int .i64 va.z2]) (some 122) GB.grow rfl (YieldsIf.toG (Or.inl ⟨by rfl, ?_⟩)) (HAL.out 8) ?_
  ·intro X hX
   have hh := hX.1 (8, gva, .cells #[.int .i64 va.x1, .int .i64 va.x2, .int .i64 va.y1, .int .i64 va.y2, .int .i64 va.z1, .int .i64 va.z2] 38) (List.Mem.tail _ (List.Mem.tail _ (List.Mem.head _))) rfl
   have hh0 := blk_cell hh 0 _ rfl
   have hh1 := blk_cell hh 1 _ rfl
   have hh2 := blk_cell hh 2 _ rfl
   have hh3 := blk_cell hh 3 _ rfl
   have hh4 := blk_cell hh 4 _ rfl
   have hh5 := blk_cell hh 5 _ rfl
   have hhl := blk_lt hh
   clear hh
   clear hX
   go_simp
  try simp only [Act.put, zA, zB, zC]
  have CFn : ∀ (args : Array Value) (W : World), Sem.run Tryz.prog (callFunc 15 args) W = .ok (.enter 15 args) W := fun _ _ => by kernel_rfl
  refine tG 9 (.agg #[.int .i64 zz.x1, .int .i64 zz.x2, .int .i64 zz.y1, .int .i64 zz.y2, .int .i64 zz.z1, .int .i64 zz.z2]) (some 123) GB.grow rfl (yieldsG_call 15 #[.int .i64 0, .int .i64 0, .int .i64 0] (by rfl) ?_ (fun X hS => ZC.out X)) (HAL.out 9) ?_
  ·intro X hX
   clear hX
   go_simp
  clear CFn
  try simp only [Act.put, zA, zB, zC]
  refine tG 10 (.bool true) (some 124) GB.grow rfl (YieldsIf.toG (Or.inl ⟨by rfl, ?_⟩)) (HAL.out 10) ?_
  ·intro X hX
   clear hX
   go_simp
  try simp only [Act.put, zA, zB, zC]
  refine tG 11 (.int .i64 (i : Int)) (some 125) GB.grow rfl (YieldsIf.toG (Or.inl ⟨by rfl, ?_⟩)) (HAL.out 11) ?_
  ·intro X hX
   clear hX
   go_simp
  try simp only [Act.put, zA, zB, zC]
  refine tG 12 (.int .i64 (i : Int)) (some 126) GB.grow rfl (YieldsIf.toG (Or.inl ⟨by rfl, ?_⟩)) (HAL.out 12) ?_
  ·intro X hX
   clear hX
   go_simp
  try simp only [Act.put, zA, zB, zC]
  refine tG 13 (.bool true) (some 127) GB.grow rfl (YieldsIf.toG (Or.inl ⟨by rfl, ?_⟩)) (HAL.out 13) ?_
  ·intro X hX
   clear hX
   go_simp
  try simp only [Act.put, zA, zB, zC]
  refine tG 14 (.bool true) (some 128) GB.grow rfl (YieldsIf.toG (Or.inl ⟨by rfl, ?_⟩)) (HAL.out 14) ?_
  ·intro X hX
   clear hX
   go_simp
  try simp only [Act.put, zA, zB, zC]
  refine tG 15 (.bool true) (some 129) GB.grow rfl (YieldsIf.toG (Or.inl ⟨by rfl, ?_⟩)) (HAL.out 15) ?_
  ·intro X hX
   clear hX
   go_simp
  try simp only [Act.put, zA, zB, zC]
  refine tG 16 (.bool true) (some 130) GB.grow rfl (YieldsIf.toG (Or.inl ⟨by rfl, ?_⟩)) (HAL.out 16) ?_
  ·intro X hX
   clear hX
   go_simp
  try simp only [Act.put, zA, zB, zC]
  have CFn : ∀ (args : Array Value) (W : World), Sem.run Tryz.prog (callFunc 9 args) W = .ok (.enter 9 args) W := fun _ _ => by kernel_rfl
  refine tG 17 (.bool true) (some 131) GB.grow rfl (yieldsG_call 9 #[] (by rfl) ?_ (fun X hS => alive_calls X ((GX.out.next (Below.drew (Below.refl _ _))).next hS.2))) (HAL.out 17) ?_
  ·intro X hX
   clear hX
   go_simp
  clear CFn
  try simp only [Act.put, zA, zB, zC]
  refine tG 18 (.bool true) (some 132) GB.grow rfl (YieldsIf.toG (Or.inl ⟨by rfl, ?_⟩)) (HAL.out 18) ?_
  ·intro X hX
   clear hX
   go_simp
  try simp only [Act.put, zA, zB, zC]
  refine tG 19 (.bool true) (some 10) GB.grow rfl (YieldsIf.toG (Or.inl ⟨by rfl, ?_⟩)) (HAL.out 19) ?_
  ·intro X hX
   clear hX
   go_simp
  try simp only [Act.put, zA, zB, zC]
  clear HAL
  refine done_G (by kernel_rfl) (fun X35 hX => ?_) _
  replace NN := Lib.hid (Bgo NN.out hX)
  replace G := Lib.hid (blk_next hX G.out)
  replace Vva := Lib.hid (blk_next hX Vva.out)
  replace Vvb := Lib.hid (blk_next hX Vvb.out)
  replace Vvc := Lib.hid (blk_next hX Vvc.out)
  replace Vvd := Lib.hid (blk_next hX Vvd.out)
  replace Vs := Lib.hid (blk_next hX Vs.out)
  clear hX
  go_wp2_with fail
  go_ret
  exact ⟨rfl, NN.out⟩
 ·have dz : decide (va = zz) = false := by rw [ZR.out]; exact decide_eq_false hij
  have dij : ((i : Int) == (j : Int)) = false := by rw [beq_eq_false_iff_ne]; omega
  have HDRW := Lib.hid (Below.drew (Below.refl W34.heap.size W34))
  replace NN := Lib.hid (Bgo NN.out HDRW.out)
  replace G := Lib.hid (blk_next HDRW.out G.out)
  replace Vva := Lib.hid (blk_next HDRW.out Vva.out)
  replace Vvb := Lib.hid (blk_next HDRW.out Vvb.out)
  replace Vvc := Lib.hid (blk_next HDRW.out Vvc.out)
  replace Vvd := Lib.hid (blk_next HDRW.out Vvd.out)
  replace Vs := Lib.hid (blk_next HDRW.out Vs.out)
  clear HDRW
  have HAL : Hid (∀ kx9 : Nat, GB [(3, gs, .cells #[.int .i64 vc.x1, .int .i64 vc.x2, .int .i64 vc.y1, .int .i64 vc.y2, .int .i64 vc.z1, .int .i64 vc.z2] 38), (4, gvc, .cells #[.int .i64 vc.x1, .int .i64 vc.x2, .int .i64 vc.y1, .int .i64 vc.y2, .int .i64 vc.z1, .int .i64 vc.z2] 38), (8, gva, .cells #[.int .i64 va.x1, .int .i64 va.x2, .int .i64 va.y1, .int .i64 va.y2, .int .i64 va.z1, .int .i64 va.z2] 38)] W34.drew kx9 W34.drew) := Lib.hid (fun kx9 => ⟨fun px9 hp e => by
   simp only [List.mem_cons, List.not_mem_nil, or_false] at hp
   rcases hp with rfl | rfl | rfl
   ·exact Vs.out
   ·exact Vvc.out
   ·exact Vva.out
  , Below.refl _ _⟩)
  refine region_G (S := GB [(3, gs, .cells #[.int .i64 vc.x1, .int .i64 vc.x2, .int .i64 vc.y1, .int .i64 vc.y2, .int .i64 vc.z1, .int .i64 vc.z2] 38), (4, gvc, .cells #[.int .i64 vc.x1, .int .i64 vc.x2, .int .i64 vc.y1, .int .i64 vc.y2, .int .i64 vc.z1, .int .i64 vc.z2] 38), (8, gva, .cells #[.int .i64 va.x1, .int .i64 va.x2, .int .i64 va.y1, .int .i64 va.y2, .int .i64 va.z1, .int .i64 va.z2] 38)] W34.drew) (by kernel_rfl) ?_
  refine tG 0 (.int .i64 0) (some 114) GB.grow rfl (YieldsIf.toG (Or.inl ⟨by rfl, ?_⟩)) (HAL.out 0) ?_
  ·intro X hX
   clear hX
   go_simp
  try simp only [Act.put, zA, zB, zC]
  refine tG 1 (.bool true) (some 115) GB.grow rfl (YieldsIf.toG (Or.inl ⟨by rfl, ?_⟩)) (HAL.out 1) ?_
  ·intro X hX
   clear hX
   go_simp
  try simp only [Act.put, zA, zB, zC]
  refine tG 2 (.bool true) (some 116) GB.grow rfl (YieldsIf.toG (Or.inl ⟨by rfl, ?_⟩)) (HAL.out 2) ?_
  ·intro X hX
   clear hX
   go_simp
  try simp only [Act.put, zA, zB, zC]
  refine tG 3 (.agg #[.int .i64 vc.x1, .int .i64 vc.x2, .int .i64 vc.y1, .int .i64 vc.y2, .int .i64 vc.z1, .int .i64 vc.z2]) (some 117) GB.grow rfl (YieldsIf.toG (Or.inl ⟨by rfl, ?_⟩)) (HAL.out 3) ?_
  ·intro X hX
   have hh := hX.1 (3, gs, .cells #[.int .i64 vc.x1, .int .i64 vc.x2, .int .i64 vc.y1, .int .i64 vc.y2, .int .i64 vc.z1, .int .i64 vc.z2] 38) (List.Mem.head _) rfl
   have hh0 := blk_cell hh 0 _ rfl
   have hh1 := blk_cell hh 1 _ rfl
   have hh2 := blk_cell hh 2 _ rfl
   have hh3 := blk_cell hh 3 _ rfl
   have hh4 := blk_cell hh 4 _ rfl
   have hh5 := blk_cell hh 5 _ rfl
   have hhl := blk_lt hh
   clear hh
   clear hX
   go_simp
  try simp only [Act.put, zA, zB, zC]
  refine tG 4 (.agg #[.int .i64 vc.x1, .int .i64 vc.x2, .int .i64 vc.y1, .int .i64 vc.y2, .int .i64 vc.z1, .int .i64 vc.z2]) (some 118) GB.grow rfl (YieldsIf.toG (Or.inl ⟨by rfl, ?_⟩)) (HAL.out 4) ?_
  ·intro X hX
   have hh := hX.1 (4, gvc, .cells #[.int .i64 vc.x1, .int .i64 vc.x2, .int .i64 vc.y1, .int .i64 vc.y2, .int .i64 vc.z1, .int .i64 vc.z2] 38) (List.Mem.tail _ (List.Mem.head _)) rfl
   have hh0 := blk_cell hh 0 _ rfl
   have hh1 := blk_cell hh 1 _ rfl
   have hh2 := blk_cell hh 2 _ rfl
   have hh3 := blk_cell hh 3 _ rfl
   have hh4 := blk_cell hh 4 _ rfl
   have hh5 := blk_cell hh 5 _ rfl
   have hhl := blk_lt hh
   clear hh
   clear hX
   go_simp
  try simp only [Act.put, zA, zB, zC]
  refine tG 5 (.bool true) (some 119) GB.grow rfl (YieldsIf.toG (Or.inl ⟨by rfl, ?_⟩)) (HAL.out 5) ?_
  ·intro X hX
   clear hX
   go_simp
  try simp only [Act.put, zA, zB, zC]
  refine tG 6 (.bool true) (some 120) GB.grow rfl (YieldsIf.toG (Or.inl ⟨by rfl, ?_⟩)) (HAL.out 6) ?_
  ·intro X hX
   clear hX
   go_simp
  try simp only [Act.put, zA, zB, zC]
  refine tG 7 (.bool true) (some 121) GB.grow rfl (YieldsIf.toG (Or.inl ⟨by rfl, ?_⟩)) (HAL.out 7) ?_
  ·intro X hX
   clear hX
   go_simp
  try simp only [Act.put, zA, zB, zC]
  refine tG 8 (.agg #[.int .i64 va.x1, .int .i64 va.x2, .int .i64 va.y1, .int .i64 va.y2, .int .i64 va.z1, .int .i64 va.z2]) (some 122) GB.grow rfl (YieldsIf.toG (Or.inl ⟨by rfl, ?_⟩)) (HAL.out 8) ?_
  ·intro X hX
   have hh := hX.1 (8, gva, .cells #[.int .i64 va.x1, .int .i64 va.x2, .int .i64 va.y1, .int .i64 va.y2, .int .i64 va.z1, .int .i64 va.z2] 38) (List.Mem.tail _ (List.Mem.tail _ (List.Mem.head _))) rfl
   have hh0 := blk_cell hh 0 _ rfl
   have hh1 := blk_cell hh 1 _ rfl
   have hh2 := blk_cell hh 2 _ rfl
   have hh3 := blk_cell hh 3 _ rfl
   have hh4 := blk_cell hh 4 _ rfl
   have hh5 := blk_cell hh 5 _ rfl
   have hhl := blk_lt hh
   clear hh
   clear hX
   go_simp
  try simp only [Act.put, zA, zB, zC]
  have CFn : ∀ (args : Array Value) (W : World), Sem.run Tryz.prog (callFunc 15 args) W = .ok (.enter 15 args) W := fun _ _ => by kernel_rfl
  refine tG 9 (.agg #[.int .i64 zz.x1, .int .i64 zz.x2, .int .i64 zz.y1, .int .i64 zz.y2, .int .i64 zz.z1, .int .i64 zz.z2]) (some 123) GB.grow rfl (yieldsG_call 15 #[.int .i64 0, .int .i64 0, .int .i64 0] (by rfl) ?_ (fun X hS => ZC.out X)) (HAL.out 9) ?_
  ·intro X hX
   clear hX
   go_simp
  clear CFn
  try simp only [Act.put, zA, zB, zC]
  refine tG 10 (.bool false) (some 124) GB.grow rfl (YieldsIf.toG (Or.inl ⟨by rfl, ?_⟩)) (HAL.out 10) ?_
  ·intro X hX
   clear hX
   go_simp
  try simp only [Act.put, zA, zB, zC]
  refine tG 11 (.int .i64 (i : Int)) (some 125) GB.grow rfl (YieldsIf.toG (Or.inl ⟨by rfl, ?_⟩)) (HAL.out 11) ?_
  ·intro X hX
   clear hX
   go_simp
  try simp only [Act.put, zA, zB, zC]
  refine tG 12 (.int .i64 (j : Int)) (some 126) GB.grow rfl (YieldsIf.toG (Or.inl ⟨by rfl, ?_⟩)) (HAL.out 12) ?_
  ·intro X hX
   clear hX
   go_simp
  try simp only [Act.put, zA, zB, zC]
  refine tG 13 (.bool false) (some 127) GB.grow rfl (YieldsIf.toG (Or.inl ⟨by rfl, ?_⟩)) (HAL.out 13) ?_
  ·intro X hX
   clear hX
   go_simp
  try simp only [Act.put, zA, zB, zC]
  refine tG 14 (.bool true) (some 128) GB.grow rfl (YieldsIf.toG (Or.inl ⟨by rfl, ?_⟩)) (HAL.out 14) ?_
  ·intro X hX
   clear hX
   go_simp
  try simp only [Act.put, zA, zB, zC]
  refine tG 15 (.bool true) (some 129) GB.grow rfl (YieldsIf.toG (Or.inl ⟨by rfl, ?_⟩)) (HAL.out 15) ?_
  ·intro X hX
   clear hX
   go_simp
  try simp only [Act.put, zA, zB, zC]
  refine tG 16 (.bool true) (some 130) GB.grow rfl (YieldsIf.toG (Or.inl ⟨by rfl, ?_⟩)) (HAL.out 16) ?_
  ·intro X hX
   clear hX
   go_simp
  try simp only [Act.put, zA, zB, zC]
  have CFn : ∀ (args : Array Value) (W : World), Sem.run Tryz.prog (callFunc 9 args) W = .ok (.enter 9 args) W := fun _ _ => by kernel_rfl
  refine tG 17 (.bool true) (some 131) GB.grow rfl (yieldsG_call 9 #[] (by rfl) ?_ (fun X hS => alive_calls X ((GX.out.next (Below.drew (Below.refl _ _))).next hS.2))) (HAL.out 17) ?_
  ·intro X hX
   clear hX
   go_simp
  clear CFn
  try simp only [Act.put, zA, zB, zC]
  refine tG 18 (.bool true) (some 132) GB.grow rfl (YieldsIf.toG (Or.inl ⟨by rfl, ?_⟩)) (HAL.out 18) ?_
  ·intro X hX
   clear hX
   go_simp
  try simp only [Act.put, zA, zB, zC]
  refine tG 19 (.bool true) (some 10) GB.grow rfl (YieldsIf.toG (Or.inl ⟨by rfl, ?_⟩)) (HAL.out 19) ?_
  ·intro X hX
   clear hX
   go_simp
  try simp only [Act.put, zA, zB, zC]
  clear HAL
  refine done_G (by kernel_rfl) (fun X36 hX => ?_) _
  replace NN := Lib.hid (Bgo NN.out hX)
  replace G := Lib.hid (blk_next hX G.out)
  replace Vva := Lib.hid (blk_next hX Vva.out)
  replace Vvb := Lib.hid (blk_next hX Vvb.out)
  replace Vvc := Lib.hid (blk_next hX Vvc.out)
  replace Vvd := Lib.hid (blk_next hX Vvd.out)
  replace Vs := Lib.hid (blk_next hX Vs.out)
  clear hX
  go_wp2_with fail
  go_ret
  exact ⟨rfl, NN.out⟩
end Go.Proofs.YtfangplfbbgphaaGreatDoor
namespace Go.Proofs.YtfangplfbbgphaaGreatDoor
open Go.ChangeShapes Go.WideShapes Go.ChangeAt Go.RowKit
set_option linter.unusedVariables false
theorem gt_of {W : World} (hL : laidMet Tryz.prog [("math/bits.deBruijn32tab", Rows.laid_math_bits_deBruijn32tab), ("math/bits.deBruijn64tab", Rows.laid_math_bits_deBruijn64tab), ("internal/strconv.uint64pow10", Rows.laid_internal_strconv_uint64pow10)] W) : GT W :=
 ⟨Lib.tabIs_of_head (g := 3) (by kernel_rfl) (t := 196) (by kernel_rfl) Tryz.underlying196 Tryz.underlying150 (by kernel_rfl) (by kernel_rfl) hL.tail.tail⟩
end Go.Proofs.YtfangplfbbgphaaGreatDoor
